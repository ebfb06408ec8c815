import Derived.Test.YtikehilbmldadaaGreatDoorP17
import Derived.Test.YtikehilbmldadaaGreatDoorP12
set_option maxHeartbeats 4000000
set_option maxRecDepth 100000
set_option linter.unusedVariables false
namespace Go.Proofs.YtikehilbmldadaaGreatDoor
open Proofs.Tryz YtikehilbmldadaaGreatDoor.Tryz RowKit
open Go renaming World->V,Value->ZE,RowKit.Below->ZF,RowKit.Hid->ZG,Calls->ZH,Value.int->I,IntKind.i64->J,Value.slice->F,Value.pointer->ZA,Value.string->ZB,Ending.returned->ZD,Value.agg->ZJ,Value.bool->ZK,Proofs.Tryz.prog->ZI
open Option renaming some->U,none->O
def Pm:Code->List Code
 |.loop c=>[c]
 |.seq a b=>Pm a++Pm b
 |.block _ c=>Pm c
 |.scope c=>Pm c
 |.cond _ a b=>Pm a++Pm b
 |_=>[]
noncomputable def Adj (n:Nat):Code:=((f46.body.map Pm).getD []).getD n .skip
structure A2 where
 E:Ak
 p:ZE
 g:ZE
 e:ZE
 f:ZE
 l:ZE
def A5(x:A2):List ZE:=(As x.E x.p x.g x.e x.f x.l).toList
structure F0 (R:Nat->Prop) (w:V) (v:ZE) (X:List A2):Prop where
 row:Av R w v 10 (X.flatMap A5) X.length
 each:∀x∈X,Dk R w x.E x.p x.g x.e x.f x.l
theorem F0.keep{R S:Nat->Prop}{w w':V}{v:ZE}{X:List A2}(h:F0 R w v X)(k:Ac S w w')(a:∀b,R b->¬S b):F0 R w' v X:=
 ⟨h.row.keep k a,fun x d=>(h.each x d).keep k a⟩
def ptE(P:List ByteArray)(k:Nat):Nat:=if Bt (P.getD k ByteArray.empty)=false then 4 else if G9 P (P.getD k ByteArray.empty)<k then 6 else 0
def Kw(P:List ByteArray):Nat:=((List.range P.length).find? (fun k=>ptE P k != 0)).elim 0 (ptE P)
theorem N9{P:List ByteArray}{k:Nat}(e:k<P.length)(h:ptE P k≠0)(a:∀j,j<k->ptE P j=0):Kw P=ptE P k:=by
 have:(List.range P.length).find? (fun k=>ptE P k != 0)=U k:=by
  rw[Zxm];exact⟨by simpa using h,List.mem_range.2 e,fun j d=>by simpa using a j d⟩
 unfold Kw;rw[this];rfl
theorem pJ{P:List ByteArray}(h:∀j,j<P.length->ptE P j=0):Kw P=0:=by
 have:(List.range P.length).find? (fun k=>ptE P k != 0)=O:=by
  rw[List.find?_range_eq_none];intro j a;simpa using h j a
 unfold Kw;rw[this];rfl
theorem Yf{P:List ByteArray}{k:Nat}(a:k<P.length):ptE P k=if Bt P[k]=false then 4 else if G9 P P[k]<k then 6 else 0:=by
 unfold ptE;rw[Of,R4 a];rfl
def Ce(g:Ix):Bool:=decide (g.mn<0\/g.mx<g.mn\/1099511627776<g.mx)
def Fq(l:List (Int × Int)):Bool:=(List.range l.length).any (fun i=>decide (l.getD i (0,0)∈l.take i))
theorem Ra{l:List (Int × Int)}(i:Nat)(hi:i<l.length)(h:l[i]∈l.take i):Fq l=true:=by
 unfold Fq;rw[Zy5];exact⟨i,List.mem_range.2 hi,by rw[Of,R4 hi];exact On h⟩
theorem Qg{l:List (Int × Int)}(h:∀i (hi:i<l.length),l[i]∉l.take i):Fq l=false:=by
 unfold Fq;rw[Zy1];intro i hi;have hi:=List.mem_range.1 hi;rw[Of,R4 hi];simpa using h i hi
theorem wX{α:Type}{l:List α}{j k:Nat}(a:j<k)(d:k<l.length)(x:α)(h:l[j]'(by omega)=x):x∈l.take k:=by
 rw[<-h];exact List.mem_iff_getElem.2 ⟨j,by simp;omega,by simp⟩
theorem sE{α:Type}{l:List α}{k:Nat}(f:k<l.length)(x:α)(h:∀j (hj:j<k),l[j]'(by omega)≠x):x∉l.take k:=by
 intro d;obtain⟨j,hj,e⟩:=List.mem_iff_getElem.1 d;have a:j<k:=by have:=hj;simp at this;omega
 exact h j a (by simpa using e)
def sA(P:Program)(t:TypeId):Prop:=∀(w:V) (a b c d:Int),(Op.equalIn 10000 t (ZJ #[I J a,I J b]) (ZJ #[I J c,I J d])).run P w=.ok (decide ((a,b)=(c,d))) w
theorem gF{P:Program}{t e:TypeId}(ut:P.underlying t=U (.array 2 e))(ue:P.underlying e=U (.int J ))(us:∃i,P.info? e=U i/\i.size=1)(w:V)(p q:Int × Int):
  (Op.equalIn 10000 t (ZJ #[I J p.1,I J p.2]) (ZJ #[I J q.1,I J q.2])).run P w=.ok (decide (p=q)) w:=by
 obtain⟨i,hi,g⟩:=us;have key:∀d,(Op.equalIn (d+2) t (ZJ #[I J p.1,I J p.2]) (ZJ #[I J q.1,I J q.2])).run P w=.ok (decide (p=q)) w:=by
  intro d;rw[Op.equalIn];have j:=fun(a b:Int) (w:V)=>I1 (P:=P) w ue #[I J a,I J b] 0 _ rfl;have l:=fun(a b:Int) (w:V)=>I1 (P:=P) w ue #[I J a,I J b] 1 _ rfl;have f:=fun(a b:Int) (w:V)=>run_equalIn_int (P:=P) w d e J J a b ue;simp[run_underlying ut,sizeOf,typeInfo,hi,g,Std.Legacy.Range.forIn_eq_forIn_range',Std.Legacy.Range.size,List.range',j,l,f];by_cases h1:p.1=q.1
  ·by_cases h2:p.2=q.2
   ·rw[if_pos h1,if_pos h2,On (Prod.ext h1 h2)]
   ·rw[if_pos h1,if_neg h2,N1 (fun h=>h2 (by rw[h]))]
  ·rw[if_neg h1,N1 (fun h=>h1 (by rw[h]))]
 exact key 9998
theorem Tryz.pairEqE:sA ZI 127:=fun w a b c d=>gF underlying127 underlying3 (by
 obtain⟨j,e,g,f,i⟩:=info_parts infoInt
 exact⟨j,e,f⟩) w (a,b) (c,d)
theorem Am9(R:Nat->Prop)(E:Ak)(vp vg ve vf vl:ZE)(t:Nat)(v0 v1:ZE)(w A:V)(hE:G6 E)(u:ZG (EB w R E vp vg ve vf vl t A))(Q0:Exit->Act->V->Prop)
  (l:∀(y0 y1 y2 y3 y5 y6 y7 y8 y9 y10 y11 y12 y13 y14 y15 y16 y17 y18 y19 y20 y21 y22 y23 y24 y25 y26 y27 y28 y29 y30 y31 y32 y33 y34 y35 y36 y37 y38 y39 y40 y41 y42 y43 y44 y45 y46 y47 y48 y49 y50 y51 y52 y53 y54 y55 y56 y57 y58 y59 y60 y61 y62 y63 y64 y65 y66 y67 y68 y69 y70 y71 y72 y73 y74 y75 y76 y77 y78 y79 y80 y81 y82 y83 y84 y85 y86 y87 y88 y89 y90 y91 y92 y93 y94 y95 y96 y97 y98 y99 y100 y101 y102 y103 y104 y105 y106 y107 y108 y109 y110 y111 y112 y113 y114 y115 y116 y117 y118 y119 y120 y121 y122 y123 y124 y125 y126 y127 y128 y129 y130 y131 y132 y133 y134 y135 y136 y137 y138 y139 y140 y141 y142 y143 y144 y145 y146 y147 y148 y149 y150 y151 y152 y153 y154 y155 y156 y157 y158 y159 y160 y161 y162 y163 y164 y165 y166 y167 y168 y169 y170 y171 y172 y173 y174 y175 y176 y177 y178 y179 y180 y181 y182 y183 y184 y185 y186 y187 y188 y189 y190 y191 y192 y193 y194 y195 y196 y197 y198 y199 y200 y201 y202 y203 y204 y205 y206 y207 y208 y209 y210 y211 y212 y213 y214 y215 y216 y217 y218 y219 y220 y221:ZE) (w':V),Kw E.points≠0->ZF w.heap.size w w'->Q0 .ret ⟨(List.toArray (y0::y1::y2::y3::(I J (Kw E.points:Nat))::y5::y6::y7::y8::y9::y10::y11::y12::y13::y14::y15::y16::y17::y18::y19::y20::y21::y22::y23::y24::y25::y26::y27::y28::y29::y30::y31::y32::y33::y34::y35::y36::y37::y38::y39::y40::y41::y42::y43::y44::y45::y46::y47::y48::y49::y50::y51::y52::y53::y54::y55::y56::y57::y58::y59::y60::y61::y62::y63::y64::y65::y66::y67::y68::y69::y70::y71::y72::y73::y74::y75::y76::y77::y78::y79::y80::y81::y82::y83::y84::y85::y86::y87::y88::y89::y90::y91::y92::y93::y94::y95::y96::y97::y98::y99::y100::y101::y102::y103::y104::y105::y106::y107::y108::y109::y110::y111::y112::y113::y114::y115::y116::y117::y118::y119::y120::y121::y122::y123::y124::y125::y126::y127::y128::y129::y130::y131::y132::y133::y134::y135::y136::y137::y138::y139::y140::y141::y142::y143::y144::y145::y146::y147::y148::y149::y150::y151::y152::y153::y154::y155::y156::y157::y158::y159::y160::y161::y162::y163::y164::y165::y166::y167::y168::y169::y170::y171::y172::y173::y174::y175::y176::y177::y178::y179::y180::y181::y182::y183::y184::y185::y186::y187::y188::y189::y190::y191::y192::y193::y194::y195::y196::y197::y198::y199::y200::y201::y202::y203::y204::y205::y206::y207::y208::y209::y210::y211::y212::y213::y214::y215::y216::y217::y218::y219::y220::y221:: [])),[]⟩ w')
  (d:∀(y2 y3 y6 y7 y8 y9 y10 y11 y12 y13 y14 y15 y16 y17 y18 y19 y20 y21 y22 y23 y24 y25 y26 y27 y28 y29 y30 y31 y32 y33 y34 y35 y36 y37 y38 y39 y40 y41 y42 y43 y44 y45 y46 y47 y48 y49 y50 y51 y52 y53 y54 y55 y56 y57 y58 y59 y60 y61 y62 y63 y64 y65 y66 y67 y68 y69 y70 y71 y72 y73 y74 y75 y76 y77 y78 y79 y80 y81 y82 y83 y84 y85 y86 y87 y88 y89 y90 y91 y92 y93 y94 y95 y96 y97 y98 y99 y100 y101 y102 y103 y104 y105 y106 y107 y108 y109 y110 y111 y112 y113 y114 y115 y116 y117 y118 y119 y120 y121 y122 y123 y124 y125 y126 y127 y128 y129 y130 y131 y132 y133 y134 y135 y136 y137 y138 y139 y140 y141 y142 y143 y144 y145 y146 y147 y148 y149 y150 y151 y152 y153 y154 y155 y156 y157 y158 y159 y160 y161 y162 y163 y164 y165 y166 y167 y168 y169 y170 y171 y172 y173 y174 y175 y176 y177 y178 y179 y180 y181 y182 y183 y184 y185 y186 y187 y188 y189 y190 y191 y192 y193 y194 y195 y196 y197 y198 y199 y200 y201 y202 y203 y204 y205 y206 y207 y208 y209 y210 y211 y212 y213 y214 y215 y216 y217 y218 y219 y220 y221:ZE) (w':V),Kw E.points=0->EB w R E vp vg ve vf vl t w'->Q0 (.exit 2) ⟨(List.toArray ((v0)::(v1)::y2::y3::(I J 0)::(ZA (U ⟨t,0,O⟩))::y6::y7::y8::y9::y10::y11::y12::y13::y14::y15::y16::y17::y18::y19::y20::y21::y22::y23::y24::y25::y26::y27::y28::y29::y30::y31::y32::y33::y34::y35::y36::y37::y38::y39::y40::y41::y42::y43::y44::y45::y46::y47::y48::y49::y50::y51::y52::y53::y54::y55::y56::y57::y58::y59::y60::y61::y62::y63::y64::y65::y66::y67::y68::y69::y70::y71::y72::y73::y74::y75::y76::y77::y78::y79::y80::y81::y82::y83::y84::y85::y86::y87::y88::y89::y90::y91::y92::y93::y94::y95::y96::y97::y98::y99::y100::y101::y102::y103::y104::y105::y106::y107::y108::y109::y110::y111::y112::y113::y114::y115::y116::y117::y118::y119::y120::y121::y122::y123::y124::y125::y126::y127::y128::y129::y130::y131::y132::y133::y134::y135::y136::y137::y138::y139::y140::y141::y142::y143::y144::y145::y146::y147::y148::y149::y150::y151::y152::y153::y154::y155::y156::y157::y158::y159::y160::y161::y162::y163::y164::y165::y166::y167::y168::y169::y170::y171::y172::y173::y174::y175::y176::y177::y178::y179::y180::y181::y182::y183::y184::y185::y186::y187::y188::y189::y190::y191::y192::y193::y194::y195::y196::y197::y198::y199::y200::y201::y202::y203::y204::y205::y206::y207::y208::y209::y210::y211::y212::y213::y214::y215::y216::y217::y218::y219::y220::y221:: [])),[]⟩ w')
  (x2 x3 x6 x7 x9 dz d3 d4 d5 d6 d7 d8 d9 ea ec ed ee ef eg eh ei ej ek el em en eo ep er es et eu ev ew ex ey ez e0 e6 e7 e8 e9 fa fb fc fd fe ff fg fh fi fj fk fl fm fn fo fp fq ft fu fv fw fx fy fz f0 f1 f2 f3 f4 f5 f6 f7 f8 f9 ga gb gc gd ge gf gg gh gi gj gk gl gm gn gp gq gr gs gt B C D H K L M N Q S T X Y Z aa ab ac ad ae af ag ah ai aj ak al am an ao aq ar au av aw ax ay az a0 a1 a2 a3 a4 a5 a6 a7 a8 a9 ba bb bc bd bf bg bh bi bj bk bl bm bn bo bp bq br bs bt bu bv bw bx bz b0 b1 b2 b3 b4 b5 b6 b7 b8 b9 ca cb cc cd ce cf cg ch ci cj ck cl cm cn co cp cq cr cs ct cu cv cw cx cy cz da db dc dd de df dg dh di dj dk dl dm dn dp:ZE):
  Code.wp ZI (Code.loop (Adj 1)) Q0 ⟨(List.toArray ((v0)::(v1)::x2::x3::(I J 0)::(ZA (U ⟨t,0,O⟩))::x6::x7::(I J 0)::x9::dz::d3::d4::d5::d6::d7::d8::d9::ea::ec::ed::ee::ef::eg::eh::ei::ej::ek::el::em::en::eo::ep::er::es::et::eu::ev::ew::ex::ey::ez::e0::e6::e7::e8::e9::fa::fb::fc::fd::fe::ff::fg::fh::fi::fj::fk::fl::fm::fn::fo::fp::fq::ft::fu::fv::fw::fx::fy::fz::f0::f1::f2::f3::f4::f5::f6::f7::f8::f9::ga::gb::gc::gd::ge::gf::gg::gh::gi::gj::gk::gl::gm::gn::gp::gq::gr::gs::gt::B::C::D::H::K::L::M::N::Q::S::T::X::Y::Z::aa::ab::ac::ad::ae::af::ag::ah::ai::aj::ak::al::am::an::ao::aq::ar::au::av::aw::ax::ay::az::a0::a1::a2::a3::a4::a5::a6::a7::a8::a9::ba::bb::bc::bd::bf::bg::bh::bi::bj::bk::bl::bm::bn::bo::bp::bq::br::bs::bt::bu::bv::bw::bx::bz::b0::b1::b2::b3::b4::b5::b6::b7::b8::b9::ca::cb::cc::cd::ce::cf::cg::ch::ci::cj::ck::cl::cm::cn::co::cp::cq::cr::cs::ct::cu::cv::cw::cx::cy::cz::da::db::dc::dd::de::df::dg::dh::di::dj::dk::dl::dm::dn::dp:: [])),[]⟩ A:=by
 have HRET:=G l;have HEXIT:=G d;obtain⟨e1,e2,e3,e4,e5⟩:=hE;clear l d;conv=>arg 2;arg 1;whnf
 go_loopw [4,8] (fun s4 s8 wr=>∃k:Nat,k<=E.points.length/\s4=I J 0/\s8=I J k/\ZG (∀j,j<k->ptE E.points j=0)/\ZG (EB w R E vp vg ve vf vl t wr)) (fun _ s8 _=>E.points.length-(intOf s8).toNat);case atStart=>exact⟨0,In _,rfl,rfl,fun j h=>by omega,u⟩
 case round=>
  obtain⟨k,hk,rfl,rfl,a,m⟩:=hrel;clear u;obtain⟨c0,c1,c2,c3,c4,c5,c6,c7,c8,c9⟩:=m.cells;obtain⟨ap,kp,q⟩:=m.sl.p.val;rw[q]at c2;have dt:=G q;clear q c0 c1 c3 c4 c5 c6 c7 c8 c9;by_cases f:k<E.points.length
  ·have i:=m.sl.p;rw[dt.out]at i;obtain⟨b,off,rfl,g9,hb,hc⟩:=E8 i (by omega);have q0:=hc k f;have HP:=G (Yf f);have dr:=G i;clear hc i;go_wp2_with fail;refine(Yx _ wr).mono ?_;rintro e w' ⟨rfl,rfl⟩;cases g:Bt E.points[k] with
   |false=>
    have h4:ptE E.points k=4:=by rw[HP.out,if_pos g]
    have o:Kw E.points=4:=by rw[N9 f (by omega) a.out,h4]
    have HV:=G o;clear g h4 o;go_wp2_with fail;have y:=HRET.out;rw[HV.out]at y;exact y _ _ _ _ _ _ _ _ _ _ _ _ _ _ _ _ _ _ _ _ _ _ _ _ _ _ _ _ _ _ _ _ _ _ _ _ _ _ _ _ _ _ _ _ _ _ _ _ _ _ _ _ _ _ _ _ _ _ _ _ _ _ _ _ _ _ _ _ _ _ _ _ _ _ _ _ _ _ _ _ _ _ _ _ _ _ _ _ _ _ _ _ _ _ _ _ _ _ _ _ _ _ _ _ _ _ _ _ _ _ _ _ _ _ _ _ _ _ _ _ _ _ _ _ _ _ _ _ _ _ _ _ _ _ _ _ _ _ _ _ _ _ _ _ _ _ _ _ _ _ _ _ _ _ _ _ _ _ _ _ _ _ _ _ _ _ _ _ _ _ _ _ _ _ _ _ _ _ _ _ _ _ _ _ _ _ _ _ _ _ _ _ _ _ _ _ _ _ _ _ _ _ _ _ _ _ _ _ _ _ _ _ _ _ _ _ _ _ _ _ _ _ (by decide) m.bel
   |true=>
    have hT:ZG (∀n,ZH ZI 81 #[F (U ⟨b,off,O⟩) E.points.length kp,ZB E.points[k]] (wr.drewN n) fun e w'=>e=ZD (I J (G9 E.points E.points[k]))/\wr.drewN n=w'):=G (fun n=>S8 R E.points _ _ _ (dr.keep (Ck n (Ac.refl (fun _=>False) wr)) (fun _ _ h=>h)));have s:=G g;clear g;by_cases v:G9 E.points E.points[k]<(k:Int)
    ·have h6:ptE E.points k=6:=by rw[HP.out,if_neg (by rw[s.out];decide),if_pos v]
     have o:Kw E.points=6:=by rw[N9 f (by omega) a.out,h6]
     have HV:=G o;clear h6 o;go_wp2_with fail;go_quiet ((go_at_call 81;exact Ek (hT _)));go_wp2_with fail;have y:=HRET.out;rw[HV.out]at y;exact y _ _ _ _ _ _ _ _ _ _ _ _ _ _ _ _ _ _ _ _ _ _ _ _ _ _ _ _ _ _ _ _ _ _ _ _ _ _ _ _ _ _ _ _ _ _ _ _ _ _ _ _ _ _ _ _ _ _ _ _ _ _ _ _ _ _ _ _ _ _ _ _ _ _ _ _ _ _ _ _ _ _ _ _ _ _ _ _ _ _ _ _ _ _ _ _ _ _ _ _ _ _ _ _ _ _ _ _ _ _ _ _ _ _ _ _ _ _ _ _ _ _ _ _ _ _ _ _ _ _ _ _ _ _ _ _ _ _ _ _ _ _ _ _ _ _ _ _ _ _ _ _ _ _ _ _ _ _ _ _ _ _ _ _ _ _ _ _ _ _ _ _ _ _ _ _ _ _ _ _ _ _ _ _ _ _ _ _ _ _ _ _ _ _ _ _ _ _ _ _ _ _ _ _ _ _ _ _ _ _ _ _ _ _ _ _ _ _ _ _ _ _ (by decide) (Ag _ m.bel)
    ·have h0:ptE E.points k=0:=by rw[HP.out,if_neg (by rw[s.out];decide),if_neg v]
     have H0:=G h0;clear h0;go_wp2_with fail;go_quiet ((go_at_call 81;exact Ek (hT _)));go_wp2_with fail;go_roundw;case rel=>exact⟨k+1,by omega,rfl,by go_num,(show ∀j,j<k+1->ptE E.points j=0 from fun j hj=>by
      by_cases e:j=k
      ·subst e;exact H0.out
      ·exact a j (by omega)),m.keep (Ck _ (Ac.refl (fun _=>False) _)) (fun _ h _=>h.elim)⟩
     case measure=>simp[intOf];omega
  ·have o:=G (pJ (P:=E.points) (fun j hj=>a j (by omega)));go_wp2_with fail;exact HEXIT _ _ _ _ _ _ _ _ _ _ _ _ _ _ _ _ _ _ _ _ _ _ _ _ _ _ _ _ _ _ _ _ _ _ _ _ _ _ _ _ _ _ _ _ _ _ _ _ _ _ _ _ _ _ _ _ _ _ _ _ _ _ _ _ _ _ _ _ _ _ _ _ _ _ _ _ _ _ _ _ _ _ _ _ _ _ _ _ _ _ _ _ _ _ _ _ _ _ _ _ _ _ _ _ _ _ _ _ _ _ _ _ _ _ _ _ _ _ _ _ _ _ _ _ _ _ _ _ _ _ _ _ _ _ _ _ _ _ _ _ _ _ _ _ _ _ _ _ _ _ _ _ _ _ _ _ _ _ _ _ _ _ _ _ _ _ _ _ _ _ _ _ _ _ _ _ _ _ _ _ _ _ _ _ _ _ _ _ _ _ _ _ _ _ _ _ _ _ _ _ _ _ _ _ _ _ _ _ _ _ _ _ _ _ _ _ _ _ _ o m.out
theorem Al4(R:Nat->Prop)(E:Ak)(vp vg ve vf vl:ZE)(q:Nat)(v0 v1:ZE)(w A:V)(hE:G6 E)(v:ZG (EB w R E vp vg ve vf vl q A))(Q0:Exit->Act->V->Prop)
  (l:∀(y0 y1 y2 y3 y5 y6 y7 y8 y9 y10 y11 y12 y13 y14 y15 y16 y17 y18 y19 y20 y21 y22 y23 y24 y25 y26 y27 y28 y29 y30 y31 y32 y33 y34 y35 y36 y37 y38 y39 y40 y41 y42 y43 y44 y45 y46 y47 y48 y49 y50 y51 y52 y53 y54 y55 y56 y57 y58 y59 y60 y61 y62 y63 y64 y65 y66 y67 y68 y69 y70 y71 y72 y73 y74 y75 y76 y77 y78 y79 y80 y81 y82 y83 y84 y85 y86 y87 y88 y89 y90 y91 y92 y93 y94 y95 y96 y97 y98 y99 y100 y101 y102 y103 y104 y105 y106 y107 y108 y109 y110 y111 y112 y113 y114 y115 y116 y117 y118 y119 y120 y121 y122 y123 y124 y125 y126 y127 y128 y129 y130 y131 y132 y133 y134 y135 y136 y137 y138 y139 y140 y141 y142 y143 y144 y145 y146 y147 y148 y149 y150 y151 y152 y153 y154 y155 y156 y157 y158 y159 y160 y161 y162 y163 y164 y165 y166 y167 y168 y169 y170 y171 y172 y173 y174 y175 y176 y177 y178 y179 y180 y181 y182 y183 y184 y185 y186 y187 y188 y189 y190 y191 y192 y193 y194 y195 y196 y197 y198 y199 y200 y201 y202 y203 y204 y205 y206 y207 y208 y209 y210 y211 y212 y213 y214 y215 y216 y217 y218 y219 y220 y221:ZE) (w':V),E.gaps.any Ce=true->ZF w.heap.size w w'->Q0 .ret ⟨(List.toArray (y0::y1::y2::y3::(I J 2)::y5::y6::y7::y8::y9::y10::y11::y12::y13::y14::y15::y16::y17::y18::y19::y20::y21::y22::y23::y24::y25::y26::y27::y28::y29::y30::y31::y32::y33::y34::y35::y36::y37::y38::y39::y40::y41::y42::y43::y44::y45::y46::y47::y48::y49::y50::y51::y52::y53::y54::y55::y56::y57::y58::y59::y60::y61::y62::y63::y64::y65::y66::y67::y68::y69::y70::y71::y72::y73::y74::y75::y76::y77::y78::y79::y80::y81::y82::y83::y84::y85::y86::y87::y88::y89::y90::y91::y92::y93::y94::y95::y96::y97::y98::y99::y100::y101::y102::y103::y104::y105::y106::y107::y108::y109::y110::y111::y112::y113::y114::y115::y116::y117::y118::y119::y120::y121::y122::y123::y124::y125::y126::y127::y128::y129::y130::y131::y132::y133::y134::y135::y136::y137::y138::y139::y140::y141::y142::y143::y144::y145::y146::y147::y148::y149::y150::y151::y152::y153::y154::y155::y156::y157::y158::y159::y160::y161::y162::y163::y164::y165::y166::y167::y168::y169::y170::y171::y172::y173::y174::y175::y176::y177::y178::y179::y180::y181::y182::y183::y184::y185::y186::y187::y188::y189::y190::y191::y192::y193::y194::y195::y196::y197::y198::y199::y200::y201::y202::y203::y204::y205::y206::y207::y208::y209::y210::y211::y212::y213::y214::y215::y216::y217::y218::y219::y220::y221:: [])),[]⟩ w')
  (f:∀(y2 y3 y6 y7 y8 y9 y10 y11 y12 y13 y14 y15 y16 y17 y18 y19 y20 y21 y22 y23 y24 y25 y26 y27 y28 y29 y30 y31 y32 y33 y34 y35 y36 y37 y38 y39 y40 y41 y42 y43 y44 y45 y46 y47 y48 y49 y50 y51 y52 y53 y54 y55 y56 y57 y58 y59 y60 y61 y62 y63 y64 y65 y66 y67 y68 y69 y70 y71 y72 y73 y74 y75 y76 y77 y78 y79 y80 y81 y82 y83 y84 y85 y86 y87 y88 y89 y90 y91 y92 y93 y94 y95 y96 y97 y98 y99 y100 y101 y102 y103 y104 y105 y106 y107 y108 y109 y110 y111 y112 y113 y114 y115 y116 y117 y118 y119 y120 y121 y122 y123 y124 y125 y126 y127 y128 y129 y130 y131 y132 y133 y134 y135 y136 y137 y138 y139 y140 y141 y142 y143 y144 y145 y146 y147 y148 y149 y150 y151 y152 y153 y154 y155 y156 y157 y158 y159 y160 y161 y162 y163 y164 y165 y166 y167 y168 y169 y170 y171 y172 y173 y174 y175 y176 y177 y178 y179 y180 y181 y182 y183 y184 y185 y186 y187 y188 y189 y190 y191 y192 y193 y194 y195 y196 y197 y198 y199 y200 y201 y202 y203 y204 y205 y206 y207 y208 y209 y210 y211 y212 y213 y214 y215 y216 y217 y218 y219 y220 y221:ZE) (w':V),E.gaps.any Ce=false->EB w R E vp vg ve vf vl q w'->Q0 (.exit 4) ⟨(List.toArray ((v0)::(v1)::y2::y3::(I J 0)::(ZA (U ⟨q,0,O⟩))::y6::y7::y8::y9::y10::y11::y12::y13::y14::y15::y16::y17::y18::y19::y20::y21::y22::y23::y24::y25::y26::y27::y28::y29::y30::y31::y32::y33::y34::y35::y36::y37::y38::y39::y40::y41::y42::y43::y44::y45::y46::y47::y48::y49::y50::y51::y52::y53::y54::y55::y56::y57::y58::y59::y60::y61::y62::y63::y64::y65::y66::y67::y68::y69::y70::y71::y72::y73::y74::y75::y76::y77::y78::y79::y80::y81::y82::y83::y84::y85::y86::y87::y88::y89::y90::y91::y92::y93::y94::y95::y96::y97::y98::y99::y100::y101::y102::y103::y104::y105::y106::y107::y108::y109::y110::y111::y112::y113::y114::y115::y116::y117::y118::y119::y120::y121::y122::y123::y124::y125::y126::y127::y128::y129::y130::y131::y132::y133::y134::y135::y136::y137::y138::y139::y140::y141::y142::y143::y144::y145::y146::y147::y148::y149::y150::y151::y152::y153::y154::y155::y156::y157::y158::y159::y160::y161::y162::y163::y164::y165::y166::y167::y168::y169::y170::y171::y172::y173::y174::y175::y176::y177::y178::y179::y180::y181::y182::y183::y184::y185::y186::y187::y188::y189::y190::y191::y192::y193::y194::y195::y196::y197::y198::y199::y200::y201::y202::y203::y204::y205::y206::y207::y208::y209::y210::y211::y212::y213::y214::y215::y216::y217::y218::y219::y220::y221:: [])),[]⟩ w')
  (x2 x3 x6 x7 x8 x9 dw dx dy dz d3 d4 d5 d6 d7 d8 d9 ea ec ed ee ef eg eh ei ej ek el em en eo ep er es et eu ev ew ex ey ez e0 e6 e7 e8 e9 fa fb fc fd fe ff fg fh fi fj fk fl fm fn fo fp fq ft fu fv fw fx fy fz f0 f1 f2 f3 f4 f5 f6 f7 f8 f9 ga gb gc gd ge gf gg gh gi gj gk gl gm gn gp B C D H K L M N P Q S T X Y Z aa ab ac ad ae af ah ai aj ak al am an ao ap aq ar au av aw ax ay az a0 a1 a2 a3 a4 a5 a6 a7 a8 a9 ba bb bc bd bf bg bh bi bj bk bl bm bn bo bp bq br bs bt bu bv bw bx bz b0 b1 b2 b3 b4 b5 b6 b7 b8 b9 ca cb cc cd ce cf cg ch ci cj ck cl cm cn co cp cq cr cs ct cu cv cw cx cy cz da db dc dd de df dg dh di dj dk dl dm dn:ZE):
  Code.wp ZI (Code.loop (Adj 2)) Q0 ⟨(List.toArray ((v0)::(v1)::x2::x3::(I J 0)::(ZA (U ⟨q,0,O⟩))::x6::x7::x8::x9::dw::(I J 0)::dx::dy::dz::d3::d4::d5::d6::d7::d8::d9::ea::ec::ed::ee::ef::eg::eh::ei::ej::ek::el::em::en::eo::ep::er::es::et::eu::ev::ew::ex::ey::ez::e0::e6::e7::e8::e9::fa::fb::fc::fd::fe::ff::fg::fh::fi::fj::fk::fl::fm::fn::fo::fp::fq::ft::fu::fv::fw::fx::fy::fz::f0::f1::f2::f3::f4::f5::f6::f7::f8::f9::ga::gb::gc::gd::ge::gf::gg::gh::gi::gj::gk::gl::gm::gn::gp::B::C::D::H::K::L::M::N::P::Q::S::T::X::Y::Z::aa::ab::ac::ad::ae::af::ah::ai::aj::ak::al::am::an::ao::ap::aq::ar::au::av::aw::ax::ay::az::a0::a1::a2::a3::a4::a5::a6::a7::a8::a9::ba::bb::bc::bd::bf::bg::bh::bi::bj::bk::bl::bm::bn::bo::bp::bq::br::bs::bt::bu::bv::bw::bx::bz::b0::b1::b2::b3::b4::b5::b6::b7::b8::b9::ca::cb::cc::cd::ce::cf::cg::ch::ci::cj::ck::cl::cm::cn::co::cp::cq::cr::cs::ct::cu::cv::cw::cx::cy::cz::da::db::dc::dd::de::df::dg::dh::di::dj::dk::dl::dm::dn:: [])),[]⟩ A:=by
 have HRET:=G l;have HEXIT:=G f;obtain⟨e1,e2,e3,e4,e5⟩:=hE;clear l f;conv=>arg 2;arg 1;whnf
 go_loopw [4,11] (fun s4 o wr=>∃k:Nat,k<=E.gaps.length/\s4=I J 0/\o=I J k/\ZG (∀j (y:j<E.gaps.length),j<k->Ce E.gaps[j]=false)/\ZG (EB w R E vp vg ve vf vl q wr)) (fun _ o _=>E.gaps.length-(intOf o).toNat);case atStart=>exact⟨0,In _,rfl,rfl,fun j _ h=>by omega,v⟩
 case round=>
  obtain⟨k,hk,rfl,rfl,i,d⟩:=hrel;clear v;obtain⟨c0,c1,c2,c3,c4,c5,c6,c7,c8,c9⟩:=d.cells;obtain⟨ag,kg,n⟩:=d.sl.g.val;rw[n]at c6;have dp:=G n;clear n c0 c1 c2 c3 c4 c5 c7 c8 c9;by_cases a:k<E.gaps.length
  ·have m:=d.sl.g;rw[dp.out]at m;obtain⟨b,off,s,g0,hb,u⟩:=m.elem (fun _=>rfl) (by decide) (by omega);have t:ag=U ⟨b,off,O⟩:=s;subst t;have q0:=u k a 0 _ rfl;have q1:=u k a 1 _ rfl;have q2:=u k a 2 _ rfl;have q3:=u k a 3 _ rfl;rw[Zzw]at q0;clear u m s;by_cases h1:E.gaps[k].mn<0
   ·
    have p:=G (show E.gaps.any Ce=true from List.any_eq_true.2 ⟨_,M2 a,(show Ce E.gaps[k]=true from On (by omega))⟩);go_wp2_with fail;exact HRET _ _ _ _ _ _ _ _ _ _ _ _ _ _ _ _ _ _ _ _ _ _ _ _ _ _ _ _ _ _ _ _ _ _ _ _ _ _ _ _ _ _ _ _ _ _ _ _ _ _ _ _ _ _ _ _ _ _ _ _ _ _ _ _ _ _ _ _ _ _ _ _ _ _ _ _ _ _ _ _ _ _ _ _ _ _ _ _ _ _ _ _ _ _ _ _ _ _ _ _ _ _ _ _ _ _ _ _ _ _ _ _ _ _ _ _ _ _ _ _ _ _ _ _ _ _ _ _ _ _ _ _ _ _ _ _ _ _ _ _ _ _ _ _ _ _ _ _ _ _ _ _ _ _ _ _ _ _ _ _ _ _ _ _ _ _ _ _ _ _ _ _ _ _ _ _ _ _ _ _ _ _ _ _ _ _ _ _ _ _ _ _ _ _ _ _ _ _ _ _ _ _ _ _ _ _ _ _ _ _ _ _ _ _ _ _ _ _ _ _ _ _ p (d.bel.alloc d.bel.size _)
   by_cases h2:E.gaps[k].mx<E.gaps[k].mn
   ·
    have p:=G (show E.gaps.any Ce=true from List.any_eq_true.2 ⟨_,M2 a,(show Ce E.gaps[k]=true from On (by omega))⟩);go_wp2_with fail;exact HRET _ _ _ _ _ _ _ _ _ _ _ _ _ _ _ _ _ _ _ _ _ _ _ _ _ _ _ _ _ _ _ _ _ _ _ _ _ _ _ _ _ _ _ _ _ _ _ _ _ _ _ _ _ _ _ _ _ _ _ _ _ _ _ _ _ _ _ _ _ _ _ _ _ _ _ _ _ _ _ _ _ _ _ _ _ _ _ _ _ _ _ _ _ _ _ _ _ _ _ _ _ _ _ _ _ _ _ _ _ _ _ _ _ _ _ _ _ _ _ _ _ _ _ _ _ _ _ _ _ _ _ _ _ _ _ _ _ _ _ _ _ _ _ _ _ _ _ _ _ _ _ _ _ _ _ _ _ _ _ _ _ _ _ _ _ _ _ _ _ _ _ _ _ _ _ _ _ _ _ _ _ _ _ _ _ _ _ _ _ _ _ _ _ _ _ _ _ _ _ _ _ _ _ _ _ _ _ _ _ _ _ _ _ _ _ _ _ _ _ _ _ _ p (d.bel.alloc d.bel.size _)
   by_cases h3:1099511627776<E.gaps[k].mx
   ·
    have p:=G (show E.gaps.any Ce=true from List.any_eq_true.2 ⟨_,M2 a,(show Ce E.gaps[k]=true from On (by omega))⟩);go_wp2_with fail;exact HRET _ _ _ _ _ _ _ _ _ _ _ _ _ _ _ _ _ _ _ _ _ _ _ _ _ _ _ _ _ _ _ _ _ _ _ _ _ _ _ _ _ _ _ _ _ _ _ _ _ _ _ _ _ _ _ _ _ _ _ _ _ _ _ _ _ _ _ _ _ _ _ _ _ _ _ _ _ _ _ _ _ _ _ _ _ _ _ _ _ _ _ _ _ _ _ _ _ _ _ _ _ _ _ _ _ _ _ _ _ _ _ _ _ _ _ _ _ _ _ _ _ _ _ _ _ _ _ _ _ _ _ _ _ _ _ _ _ _ _ _ _ _ _ _ _ _ _ _ _ _ _ _ _ _ _ _ _ _ _ _ _ _ _ _ _ _ _ _ _ _ _ _ _ _ _ _ _ _ _ _ _ _ _ _ _ _ _ _ _ _ _ _ _ _ _ _ _ _ _ _ _ _ _ _ _ _ _ _ _ _ _ _ _ _ _ _ _ _ _ _ _ _ p (d.bel.alloc d.bel.size _)
   have ds:=G (show Ce E.gaps[k]=false from N1 (by omega));have dr:=G (d.below ((R1 _ _).alloc (Y2 _) (.cells #[I J E.gaps[k].fr,I J E.gaps[k].dst,I J E.gaps[k].mn,I J E.gaps[k].mx] 126)));go_wp2_with fail;go_roundw;case rel=>exact⟨k+1,by omega,rfl,by go_num,(show ∀j (y:j<E.gaps.length),j<k+1->Ce E.gaps[j]=false from fun j y g1=>by
    by_cases e:j=k
    ·subst e;exact ds.out
    ·exact i j y (by omega)),dr⟩
   case measure=>simp[intOf];omega
  ·have hv:=G (show E.gaps.any Ce=false from List.any_eq_false.2 (fun x hx=>by
    obtain⟨j,y,rfl⟩:=List.mem_iff_getElem.1 hx;rw[i j y (by omega)];decide))
   go_wp2_with fail;exact HEXIT _ _ _ _ _ _ _ _ _ _ _ _ _ _ _ _ _ _ _ _ _ _ _ _ _ _ _ _ _ _ _ _ _ _ _ _ _ _ _ _ _ _ _ _ _ _ _ _ _ _ _ _ _ _ _ _ _ _ _ _ _ _ _ _ _ _ _ _ _ _ _ _ _ _ _ _ _ _ _ _ _ _ _ _ _ _ _ _ _ _ _ _ _ _ _ _ _ _ _ _ _ _ _ _ _ _ _ _ _ _ _ _ _ _ _ _ _ _ _ _ _ _ _ _ _ _ _ _ _ _ _ _ _ _ _ _ _ _ _ _ _ _ _ _ _ _ _ _ _ _ _ _ _ _ _ _ _ _ _ _ _ _ _ _ _ _ _ _ _ _ _ _ _ _ _ _ _ _ _ _ _ _ _ _ _ _ _ _ _ _ _ _ _ _ _ _ _ _ _ _ _ _ _ _ _ _ _ _ _ _ _ _ _ _ _ _ _ _ _ hv d.out
theorem Akg(R:Nat->Prop)(E:Ak)(vp vg ve vf vl:ZE)(A:Nat)(v0 v1:ZE)(w N:V)(hE:G6 E)(D:ZG (EB w R E vp vg ve vf vl A N))(Q0:Exit->Act->V->Prop)
  (m:∀(y0 y1 y2 y3 y5 y6 y7 y8 y9 y10 y11 y12 y13 y14 y15 y16 y17 y18 y19 y20 y21 y22 y23 y24 y25 y26 y27 y28 y29 y30 y31 y32 y33 y34 y35 y36 y37 y38 y39 y40 y41 y42 y43 y44 y45 y46 y47 y48 y49 y50 y51 y52 y53 y54 y55 y56 y57 y58 y59 y60 y61 y62 y63 y64 y65 y66 y67 y68 y69 y70 y71 y72 y73 y74 y75 y76 y77 y78 y79 y80 y81 y82 y83 y84 y85 y86 y87 y88 y89 y90 y91 y92 y93 y94 y95 y96 y97 y98 y99 y100 y101 y102 y103 y104 y105 y106 y107 y108 y109 y110 y111 y112 y113 y114 y115 y116 y117 y118 y119 y120 y121 y122 y123 y124 y125 y126 y127 y128 y129 y130 y131 y132 y133 y134 y135 y136 y137 y138 y139 y140 y141 y142 y143 y144 y145 y146 y147 y148 y149 y150 y151 y152 y153 y154 y155 y156 y157 y158 y159 y160 y161 y162 y163 y164 y165 y166 y167 y168 y169 y170 y171 y172 y173 y174 y175 y176 y177 y178 y179 y180 y181 y182 y183 y184 y185 y186 y187 y188 y189 y190 y191 y192 y193 y194 y195 y196 y197 y198 y199 y200 y201 y202 y203 y204 y205 y206 y207 y208 y209 y210 y211 y212 y213 y214 y215 y216 y217 y218 y219 y220 y221:ZE) (w':V),Fq E.edges=true->ZF w.heap.size w w'->Q0 .ret ⟨(List.toArray (y0::y1::y2::y3::(I J 6)::y5::y6::y7::y8::y9::y10::y11::y12::y13::y14::y15::y16::y17::y18::y19::y20::y21::y22::y23::y24::y25::y26::y27::y28::y29::y30::y31::y32::y33::y34::y35::y36::y37::y38::y39::y40::y41::y42::y43::y44::y45::y46::y47::y48::y49::y50::y51::y52::y53::y54::y55::y56::y57::y58::y59::y60::y61::y62::y63::y64::y65::y66::y67::y68::y69::y70::y71::y72::y73::y74::y75::y76::y77::y78::y79::y80::y81::y82::y83::y84::y85::y86::y87::y88::y89::y90::y91::y92::y93::y94::y95::y96::y97::y98::y99::y100::y101::y102::y103::y104::y105::y106::y107::y108::y109::y110::y111::y112::y113::y114::y115::y116::y117::y118::y119::y120::y121::y122::y123::y124::y125::y126::y127::y128::y129::y130::y131::y132::y133::y134::y135::y136::y137::y138::y139::y140::y141::y142::y143::y144::y145::y146::y147::y148::y149::y150::y151::y152::y153::y154::y155::y156::y157::y158::y159::y160::y161::y162::y163::y164::y165::y166::y167::y168::y169::y170::y171::y172::y173::y174::y175::y176::y177::y178::y179::y180::y181::y182::y183::y184::y185::y186::y187::y188::y189::y190::y191::y192::y193::y194::y195::y196::y197::y198::y199::y200::y201::y202::y203::y204::y205::y206::y207::y208::y209::y210::y211::y212::y213::y214::y215::y216::y217::y218::y219::y220::y221:: [])),[]⟩ w')
  (a:∀(y2 y3 y6 y7 y8 y9 y10 y11 y12 y13 y14 y15 y16 y17 y18 y19 y20 y21 y22 y23 y24 y25 y26 y27 y28 y29 y30 y31 y32 y33 y34 y35 y36 y37 y38 y39 y40 y41 y42 y43 y44 y45 y46 y47 y48 y49 y50 y51 y52 y53 y54 y55 y56 y57 y58 y59 y60 y61 y62 y63 y64 y65 y66 y67 y68 y69 y70 y71 y72 y73 y74 y75 y76 y77 y78 y79 y80 y81 y82 y83 y84 y85 y86 y87 y88 y89 y90 y91 y92 y93 y94 y95 y96 y97 y98 y99 y100 y101 y102 y103 y104 y105 y106 y107 y108 y109 y110 y111 y112 y113 y114 y115 y116 y117 y118 y119 y120 y121 y122 y123 y124 y125 y126 y127 y128 y129 y130 y131 y132 y133 y134 y135 y136 y137 y138 y139 y140 y141 y142 y143 y144 y145 y146 y147 y148 y149 y150 y151 y152 y153 y154 y155 y156 y157 y158 y159 y160 y161 y162 y163 y164 y165 y166 y167 y168 y169 y170 y171 y172 y173 y174 y175 y176 y177 y178 y179 y180 y181 y182 y183 y184 y185 y186 y187 y188 y189 y190 y191 y192 y193 y194 y195 y196 y197 y198 y199 y200 y201 y202 y203 y204 y205 y206 y207 y208 y209 y210 y211 y212 y213 y214 y215 y216 y217 y218 y219 y220 y221:ZE) (w':V),Fq E.edges=false->EB w R E vp vg ve vf vl A w'->Q0 (.exit 6) ⟨(List.toArray ((v0)::(v1)::y2::y3::(I J 0)::(ZA (U ⟨A,0,O⟩))::y6::y7::y8::y9::y10::y11::y12::y13::y14::y15::y16::y17::y18::y19::y20::y21::y22::y23::y24::y25::y26::y27::y28::y29::y30::y31::y32::y33::y34::y35::y36::y37::y38::y39::y40::y41::y42::y43::y44::y45::y46::y47::y48::y49::y50::y51::y52::y53::y54::y55::y56::y57::y58::y59::y60::y61::y62::y63::y64::y65::y66::y67::y68::y69::y70::y71::y72::y73::y74::y75::y76::y77::y78::y79::y80::y81::y82::y83::y84::y85::y86::y87::y88::y89::y90::y91::y92::y93::y94::y95::y96::y97::y98::y99::y100::y101::y102::y103::y104::y105::y106::y107::y108::y109::y110::y111::y112::y113::y114::y115::y116::y117::y118::y119::y120::y121::y122::y123::y124::y125::y126::y127::y128::y129::y130::y131::y132::y133::y134::y135::y136::y137::y138::y139::y140::y141::y142::y143::y144::y145::y146::y147::y148::y149::y150::y151::y152::y153::y154::y155::y156::y157::y158::y159::y160::y161::y162::y163::y164::y165::y166::y167::y168::y169::y170::y171::y172::y173::y174::y175::y176::y177::y178::y179::y180::y181::y182::y183::y184::y185::y186::y187::y188::y189::y190::y191::y192::y193::y194::y195::y196::y197::y198::y199::y200::y201::y202::y203::y204::y205::y206::y207::y208::y209::y210::y211::y212::y213::y214::y215::y216::y217::y218::y219::y220::y221:: [])),[]⟩ w')
  (x2 x3 x6 x7 x8 x9 ef eg eh ei ej ek el em en eo ep er es et eu ev ew ex ey ez e0 e6 e7 e8 e9 fa fb fc fd fe ff fg fh fi fj fk fl fm fn fo fp fq ft fu fv fw fx fy fz f0 f1 f2 f3 f4 f5 f6 f7 f8 f9 ga gb gc gd ge gf gg gh gi gj gk gl gm gn gp gq gr gs gt gu gv gw gx gy gz g0 g1 g2 g3 g4 P Q S T X Y Z aa ab ac ad af ag ah ai aj ak al am an ao ap aq ar au av aw ax ay az a0 a1 a2 a3 a4 a5 a6 a7 a8 a9 ba bb bc bd bf bg bh bi bj bk bl bm bn bo bp bq br bs bt bu bv bw bx bz b0 b1 b2 b3 b4 b5 b6 b7 b8 b9 ca cb cc cd ce cf cg ch ci cj ck cl cm cn co cp cq cr cs ct cu cv cw cx cy cz da db dc dd de df dg dh di dj dk dl dm dn dp dq dr ds dt du dv dw:ZE):
  Code.wp ZI (Code.loop (Adj 3)) Q0 ⟨(List.toArray ((v0)::(v1)::x2::x3::(I J 0)::(ZA (U ⟨A,0,O⟩))::x6::x7::x8::x9::ef::eg::eh::(I J 0)::ei::ej::ek::el::em::en::eo::ep::er::es::et::eu::ev::ew::ex::ey::ez::e0::e6::e7::e8::e9::fa::fb::fc::fd::fe::ff::fg::fh::fi::fj::fk::fl::fm::fn::fo::fp::fq::ft::fu::fv::fw::fx::fy::fz::f0::f1::f2::f3::f4::f5::f6::f7::f8::f9::ga::gb::gc::gd::ge::gf::gg::gh::gi::gj::gk::gl::gm::gn::gp::gq::gr::gs::gt::gu::gv::gw::gx::gy::gz::g0::g1::g2::g3::g4::P::Q::S::T::X::Y::Z::aa::ab::ac::ad::af::ag::ah::ai::aj::ak::al::am::an::ao::ap::aq::ar::au::av::aw::ax::ay::az::a0::a1::a2::a3::a4::a5::a6::a7::a8::a9::ba::bb::bc::bd::bf::bg::bh::bi::bj::bk::bl::bm::bn::bo::bp::bq::br::bs::bt::bu::bv::bw::bx::bz::b0::b1::b2::b3::b4::b5::b6::b7::b8::b9::ca::cb::cc::cd::ce::cf::cg::ch::ci::cj::ck::cl::cm::cn::co::cp::cq::cr::cs::ct::cu::cv::cw::cx::cy::cz::da::db::dc::dd::de::df::dg::dh::di::dj::dk::dl::dm::dn::dp::dq::dr::ds::dt::du::dv::dw:: [])),[]⟩ N:=by
 have HRET:=G m;have HEXIT:=G a;obtain⟨e1,e2,e3,e4,e5⟩:=hE;clear m a;have o:=Tryz.pairEqE;unfold sA at o;have y:=G o;clear o;conv=>arg 2;arg 1;whnf
 go_loopw [4,13] (fun s4 t wr=>∃k:Nat,k<=E.edges.length/\s4=I J 0/\t=I J k/\ZG (∀j (hj:j<E.edges.length),j<k->E.edges[j]∉E.edges.take j)/\ZG (EB w R E vp vg ve vf vl A wr)) (fun _ t _=>E.edges.length-(intOf t).toNat);case atStart=>exact⟨0,In _,rfl,rfl,fun j _ h=>by omega,D⟩
 case round=>
  obtain⟨k,hk,rfl,rfl,g,n⟩:=hrel;clear D;obtain⟨c0,c1,c2,c3,c4,c5,c6,c7,c8,c9⟩:=n.cells;obtain⟨ae,ke,s⟩:=n.sl.e.val;rw[s]at c7;have dz:=G s;clear s c0 c1 c2 c3 c4 c5 c6 c8 c9;by_cases d:k<E.edges.length
  ·have p:=n.sl.e;rw[dz.out]at p;obtain⟨b,off,B,il,hb,hc⟩:=p.elem (f:=Cn) (fun _=>rfl) (by decide) (by omega);have C:ae=U ⟨b,off,O⟩:=B;subst C;have q0:=hc k d 0 _ rfl;have q1:=hc k d 1 _ rfl;rw[Zzw]at q0;have HC:=G hc;clear hc p B;obtain⟨wo,M⟩:∃wo,wo=wr:=⟨_,rfl⟩
   go_wp2_with fail;rw[<-M]at n HC c7 q0 q1 ⊢;clear M;go_loopw [4,14] (fun s4 u wx=>∃j q:Nat,j<=k/\s4=I J 0/\u=I J j/\ZG (∀i (hi:i<j) (hk:i<E.edges.length),i<k->E.edges[i]≠E.edges[k])/\wx=wo.drewN q) (fun _ u _=>k-(intOf u).toNat);case atStart=>exact⟨0,0,In _,rfl,rfl,fun i h=>by omega,rfl⟩
   case round=>
    obtain⟨j,q,hj,rfl,rfl,K,rfl⟩:=hrel;by_cases d6:j<k
    ·have L:j<E.edges.length:=by omega
     have p0:=HC j L 0 _ rfl;have p1:=HC j L 1 _ rfl;rw[Zzw]at p0;have io:(j:Int)<(E.edges.length:Int):=by omega
     by_cases v:E.edges[j]=E.edges[k]
     ·have hq:=fun w=>y w E.edges[j].1 E.edges[j].2 E.edges[k].1 E.edges[k].2;rw[On (show(E.edges[j].1,E.edges[j].2)=(E.edges[k].1,E.edges[k].2)from v)]at hq;have HB:=G (Ra k d (wX d6 d _ v));clear v;go_wp2_with fail;go_quiet (fail);go_wp2_with fail;exact HRET _ _ _ _ _ _ _ _ _ _ _ _ _ _ _ _ _ _ _ _ _ _ _ _ _ _ _ _ _ _ _ _ _ _ _ _ _ _ _ _ _ _ _ _ _ _ _ _ _ _ _ _ _ _ _ _ _ _ _ _ _ _ _ _ _ _ _ _ _ _ _ _ _ _ _ _ _ _ _ _ _ _ _ _ _ _ _ _ _ _ _ _ _ _ _ _ _ _ _ _ _ _ _ _ _ _ _ _ _ _ _ _ _ _ _ _ _ _ _ _ _ _ _ _ _ _ _ _ _ _ _ _ _ _ _ _ _ _ _ _ _ _ _ _ _ _ _ _ _ _ _ _ _ _ _ _ _ _ _ _ _ _ _ _ _ _ _ _ _ _ _ _ _ _ _ _ _ _ _ _ _ _ _ _ _ _ _ _ _ _ _ _ _ _ _ _ _ _ _ _ _ _ _ _ _ _ _ _ _ _ _ _ _ _ _ _ _ _ _ _ _ _ HB (Ag _ (Ag _ n.bel))
     ·have hq:=fun w=>y w E.edges[j].1 E.edges[j].2 E.edges[k].1 E.edges[k].2;rw[N1 (show ¬(E.edges[j].1,E.edges[j].2)=(E.edges[k].1,E.edges[k].2)from v)]at hq;have HX:=G v;clear v;go_wp2_with fail;go_quiet (fail);go_wp2_with fail;go_roundw;case rel=>exact⟨j+1,_,by omega,rfl,by go_num,(show ∀i (hi:i<j+1) (hk:i<E.edges.length),i<k->E.edges[i]≠E.edges[k] from fun i hi d4 H=>by
       by_cases e:i=j
       ·subst e;exact HX.out
       ·exact K i (by omega) d4 H),rfl⟩
      case measure=>simp[intOf];omega
    ·obtain rfl:j=k:=by omega
     have d7:=G (sE d E.edges[j] (fun i hi=>K i hi (by omega) hi));go_wp2_with fail;go_roundw;case rel=>exact⟨j+1,by omega,rfl,by go_num,(show ∀i (hi:i<E.edges.length),i<j+1->E.edges[i]∉E.edges.take i from fun i hi im=>by
      by_cases e:i=j
      ·subst e;exact d7.out
      ·exact g i hi (by omega)),n.keep (Ck _ (Ac.refl (fun _=>False) _)) (fun _ h _=>h.elim)⟩
     case measure=>simp[intOf];omega
  ·have hv:=G (Qg (l:=E.edges) (fun j hj=>g j hj (by omega)));go_wp2_with fail;exact HEXIT _ _ _ _ _ _ _ _ _ _ _ _ _ _ _ _ _ _ _ _ _ _ _ _ _ _ _ _ _ _ _ _ _ _ _ _ _ _ _ _ _ _ _ _ _ _ _ _ _ _ _ _ _ _ _ _ _ _ _ _ _ _ _ _ _ _ _ _ _ _ _ _ _ _ _ _ _ _ _ _ _ _ _ _ _ _ _ _ _ _ _ _ _ _ _ _ _ _ _ _ _ _ _ _ _ _ _ _ _ _ _ _ _ _ _ _ _ _ _ _ _ _ _ _ _ _ _ _ _ _ _ _ _ _ _ _ _ _ _ _ _ _ _ _ _ _ _ _ _ _ _ _ _ _ _ _ _ _ _ _ _ _ _ _ _ _ _ _ _ _ _ _ _ _ _ _ _ _ _ _ _ _ _ _ _ _ _ _ _ _ _ _ _ _ _ _ _ _ _ _ _ _ _ _ _ _ _ _ _ _ _ _ _ _ _ _ _ _ _ hv n.out
def R0(E:Ak):Bool:=decide (E.tol<0\/20<E.tol\/16<E.points.length\/8<E.gaps.length\/64<E.edges.length)
def tA(E:Ak):Bool:=decide (16<E.first.length\/16<E.last.length)
def Xf(E:Ak):Bool:=decide (E.count< -1\/(E.points.length:Int)<=E.count)
def Tl(E:Ak):Bool:=decide (E.count= -1/\(E.mn≠0\/E.mx≠0))
def Ve(E:Ak):Bool:=decide (E.mn<0\/E.mx<E.mn\/1000<=E.mx)
def s1W(E:Ak):Bool:=decide (0<E.edges.length/\E.first.length=0)
def s2W(E:Ak):Bool:=decide (E.edges.length=0/\0<E.first.length+E.last.length)
def A8(ahead:List ByteArray)(E:Ak):Nat:=
 if Bt E.name=false then 4 else if B3 ahead E.name=true then 6 else if R0 E=true then 2 else if tA E=true then 2 else if Kw E.points≠0 then Kw E.points else if Xf E=true then 5
 else if Jh E=true then 5 else if Tl E=true then 3 else if Ve E=true then 2 else if E.gaps.any Ce=true then 2 else if Fq E.edges=true then 6 else if H8 E.first=true then 6 else if H8 E.last=true then 6
 else if s1W E=true then 3 else if s2W E=true then 3 else 0
def Ma(x:A2):ByteArray:=x.E.name
theorem Pt{L:List ByteArray}{s:ByteArray}(j:Nat)(hj:j<L.length)(h:L[j].toList=s.toList):B3 L s=true:=List.any_eq_true.2 ⟨_,M2 hj,by simp[h]⟩
theorem Q4{L:List ByteArray}{s:ByteArray}(h:∀j (hj:j<L.length),L[j].toList≠s.toList):B3 L s=false:=List.any_eq_false.2 (fun x a=>by
 obtain⟨j,hj,rfl⟩:=List.mem_iff_getElem.1 a
 simpa using h j hj)
theorem Ks{R:Nat->Prop}{w:V}{ao:Option Addr}{n cap:Nat}{X:List A2}(h:Av R w (F ao n cap) 10 (X.flatMap A5) X.length)(h0:0<X.length):
  ∃b off,ao=U ⟨b,off,O⟩/\R b/\b<w.heap.size/\∀k (hk:k<X.length),w.cell? ⟨b,off+k*10,O⟩=U (ZB X[k].E.name)/\w.cell? ⟨b,off+k*10+1,O⟩=U (I J X[k].E.tol)/\w.cell? ⟨b,off+k*10+2,O⟩=U X[k].p/\
   w.cell? ⟨b,off+k*10+3,O⟩=U (I J X[k].E.count)/\w.cell? ⟨b,off+k*10+4,O⟩=U (I J X[k].E.mn)/\w.cell? ⟨b,off+k*10+5,O⟩=U (I J X[k].E.mx)/\w.cell? ⟨b,off+k*10+6,O⟩=U X[k].g/\
   w.cell? ⟨b,off+k*10+7,O⟩=U X[k].e/\w.cell? ⟨b,off+k*10+8,O⟩=U X[k].f/\w.cell? ⟨b,off+k*10+9,O⟩=U X[k].l:=by
 obtain⟨b,off,i,d,j,a⟩:=h.elem (fun _=>rfl) (by decide) h0;exact⟨b,off,i,d,j,fun k hk=>⟨a k hk 0 _ rfl,a k hk 1 _ rfl,a k hk 2 _ rfl,a k hk 3 _ rfl,a k hk 4 _ rfl,a k hk 5 _ rfl,a k hk 6 _ rfl,a k hk 7 _ rfl,a k hk 8 _ rfl,a k hk 9 _ rfl⟩⟩
theorem Bw{R:Nat->Prop}{w w':V}(hR:∀b,R b->b<w.heap.size)(h:ZF w.heap.size w w'):∀b,R b->b<w'.heap.size:=fun b hb=>F5 (hR b hb) h.size
theorem Adi(R:Nat->Prop)(X:List A2)(v:ZE)(i:Nat)(hi:i<X.length)(w:V)(h:F0 R w v X)(hR:∀b,R b->b<w.heap.size)(hE:G6 X[i].E)(hX:X.length<=1000):
  ZH ZI 46 #[v,I J i] w fun e w'=>e=ZD (I J (A8 ((X.take i).map Ma) X[i].E:Nat))/\ZF w.heap.size w w':=by
 obtain⟨ao,cap,rfl⟩:=h.row.val;obtain⟨b,off,rfl,k0,hb,hc⟩:=Ks h.row (by omega);obtain⟨q0,q1,q2,q3,q4,q5,q6,q7,q8,q9⟩:=hc i hi;have n:=h.each X[i] (M2 hi);obtain⟨ahead,id⟩:∃ahead,ahead=(X.take i).map Ma:=⟨_,rfl⟩
 rw[<-id];have il:ahead.length=i:=by rw[id];simp;omega
 have ir:ZG (∀k (hk:k<i) (ig:k<ahead.length),(w.cell? ⟨b,off+k*10,O⟩=U (ZB ahead[k]))):=G (fun k hk ig=>by
  have:=(hc k (by omega)).1;rw[this];subst id;simp[Ma])
 clear hc id;obtain⟨E,i3⟩:∃E,E=X[i].E:=⟨_,rfl⟩
 obtain⟨vp,ji⟩:∃vp,vp=X[i].p:=⟨_,rfl⟩
 obtain⟨vg,jg⟩:∃vg,vg=X[i].g:=⟨_,rfl⟩
 obtain⟨ve,je⟩:∃ve,ve=X[i].e:=⟨_,rfl⟩
 obtain⟨vf,jf⟩:∃vf,vf=X[i].f:=⟨_,rfl⟩
 obtain⟨vl,jh⟩:∃vl,vl=X[i].l:=⟨_,rfl⟩
 rw[<-i3]at q0 q1 q3 q4 q5 n hE ⊢;rw[<-ji]at q2 n;rw[<-jg]at q6 n;rw[<-je]at q7 n;rw[<-jf]at q8 n;rw[<-jh]at q9 n;clear ji jg je jf jh;obtain⟨pa,pc,rfl⟩:=n.p.val;obtain⟨ga,gc,rfl⟩:=n.g.val;obtain⟨ea,ec,rfl⟩:=n.e.val;obtain⟨fa,fc,rfl⟩:=n.f.val;obtain⟨la,lc,rfl⟩:=n.l.val;have i2:EB w R E _ _ _ _ _ w.heap.size (w.alloc (.cells (As E (F pa E.points.length pc) (F ga E.gaps.length gc) (F ea E.edges.length ec) (F fa E.first.length fc) (F la E.last.length lc)) 50)):=
  ⟨Ab _ _,n.keep (Al ((R1 _ _).alloc (Y2 _) _)) (fun _ _ h=>h),(R1 _ _).alloc (Y2 _) _,hR,Y2 _⟩
 have iq:=G il;have D:=G i2;unfold As at D;clear h n i3 i2 il;go_enter func46,ntmps46;go_upto_region 2 with fail;generalize w.alloc _=w1 at D ⊢;have HNM1:ZG (∀k (hk:k<i) (ig:k<ahead.length),(w1.cell? ⟨b,off+k*10,O⟩=U (ZB ahead[k]))):=G (fun k hk ig=>by
  rw[D.bel.cell (p:=⟨b,off+k*10,O⟩) hb];exact ir k hk ig)
 clear ir q0 q1 q2 q3 q4 q5 q6 q7 q8 q9;obtain⟨c0,c1,c2,c3,c4,c5,c6,c7,c8,c9⟩:=D.cells;have d:=D;go_wp2_with fail;refine(Yx _ w1).mono ?_;rintro e w' ⟨rfl,rfl⟩;cases ih:Bt E.name with
 |false=>
  have o:=G ih;clear ih;go_wp2_with fail;go_ret;exact⟨A6 (by rw[show A8 ahead E=4 from by simp[A8,o.out]];rfl),d.bel⟩
 |true=>
 have o:=G ih;clear ih c0 c1 c2 c3 c4 c5 c6 c7 c8 c9 d;go_wp2_with fail;go_loopw [4,7] (fun s4 s7 wr=>∃k q:Nat,k<=i/\s4=I J 0/\s7=I J k/\wr=w1.drewN q/\ZG (∀j (hj:j<ahead.length),j<k->ahead[j].toList≠E.name.toList)) (fun _ s7 _=>i-(intOf s7).toNat);case atStart=>exact⟨0,0,In _,rfl,rfl,rfl,fun j _ h=>by omega⟩
 case round=>
  obtain⟨k,q,hk,rfl,rfl,rfl,ek⟩:=hrel;have i4:EB w R E (F pa E.points.length pc) (F ga E.gaps.length gc) (F ea E.edges.length ec) (F fa E.first.length fc) (F la E.last.length lc) w.heap.size (w1.drewN q):=D.keep (Ck q (Ac.refl (fun _=>False) _)) (fun _ h _=>h.elim);have d:=G i4;clear i4;by_cases jz:k<i
  ·have jd:k<ahead.length:=by have:=iq.out;omega
   have q0:=HNM1 k jz jd;have k3:(k:Int)<(X.length:Int):=by omega
   obtain⟨c0,c1,c2,c3,c4,c5,c6,c7,c8,c9⟩:=D.cells;clear c1 c2 c3 c4 c5 c6 c7 c8 c9;by_cases hx:ahead[k].toList=E.name.toList
   ·have j0:(ahead[k].toList==E.name.toList)=true:=by simp[hx]
    have t:=G (Pt k jd hx);clear hx;go_wp2_with fail;go_quiet (fail);go_wp2_with fail;go_ret;exact⟨A6 (by rw[show A8 ahead E=6 from by simp[A8,o.out,t.out]];rfl),Ag _ d.bel⟩
   ·have j0:(ahead[k].toList==E.name.toList)=false:=by simp[hx]
    have HX:=G hx;clear hx;go_wp2_with fail;go_quiet (fail);go_wp2_with fail;go_roundw;case rel=>exact⟨k+1,_,by omega,rfl,by go_num,rfl,(show ∀j (hj:j<ahead.length),j<k+1->ahead[j].toList≠E.name.toList from fun j hj k2=>by
     by_cases e:j=k
     ·subst e;exact HX.out
     ·exact ek j hj (by omega))⟩
    case measure=>simp[intOf];omega
  ·have t:=G (Q4 (L:=ahead) (s:=E.name) (fun j hj=>ek j hj (by have:=iq.out;omega)));clear HNM1 D ek;generalize World.drewN _ _=w2 at d ⊢;obtain⟨c0,c1,c2,c3,c4,c5,c6,c7,c8,c9⟩:=d.cells;by_cases h1:E.tol<0
   ·have m:=G (show R0 E=true from On (.inl h1));go_wp2_with fail;all_goals
     go_ret;exact⟨A6 (by rw[show A8 ahead E=2 from by simp only[A8,o.out,t.out,m.out];simp];rfl),d.bel⟩
   by_cases h2:20<E.tol
   ·have m:=G (show R0 E=true from On (by omega));go_wp2_with fail;all_goals
     go_ret;exact⟨A6 (by rw[show A8 ahead E=2 from by simp only[A8,o.out,t.out,m.out];simp];rfl),d.bel⟩
   by_cases h3:16<E.points.length
   ·have m:=G (show R0 E=true from On (by omega));go_wp2_with fail;all_goals
     go_ret;exact⟨A6 (by rw[show A8 ahead E=2 from by simp only[A8,o.out,t.out,m.out];simp];rfl),d.bel⟩
   by_cases h4:8<E.gaps.length
   ·have m:=G (show R0 E=true from On (by omega));go_wp2_with fail;all_goals
     go_ret;exact⟨A6 (by rw[show A8 ahead E=2 from by simp only[A8,o.out,t.out,m.out];simp];rfl),d.bel⟩
   by_cases h5:64<E.edges.length
   ·have m:=G (show R0 E=true from On (by omega));go_wp2_with fail;all_goals
     go_ret;exact⟨A6 (by rw[show A8 ahead E=2 from by simp only[A8,o.out,t.out,m.out];simp];rfl),d.bel⟩
   have m:=G (show R0 E=false from N1 (by omega));by_cases h6:16<E.first.length
   ·have u:=G (show tA E=true from On (by omega));go_wp2_with fail;all_goals
     go_ret;exact⟨A6 (by rw[show A8 ahead E=2 from by simp only[A8,o.out,t.out,m.out,u.out];simp];rfl),d.bel⟩
   by_cases h7:16<E.last.length
   ·have u:=G (show tA E=true from On (by omega));go_wp2_with fail;all_goals
     go_ret;exact⟨A6 (by rw[show A8 ahead E=2 from by simp only[A8,o.out,t.out,m.out,u.out];simp];rfl),d.bel⟩
   have u:=G (show tA E=false from N1 (by omega));go_wp2_with fail;clear c0 c1 c2 c3 c4 c5 c6 c7 c8 c9;refine Am9 R E _ _ _ _ _ _ _ _ w _ hE d _ ?_ ?_ _ _ _ _ _ _ _ _ _ _ _ _ _ _ _ _ _ _ _ _ _ _ _ _ _ _ _ _ _ _ _ _ _ _ _ _ _ _ _ _ _ _ _ _ _ _ _ _ _ _ _ _ _ _ _ _ _ _ _ _ _ _ _ _ _ _ _ _ _ _ _ _ _ _ _ _ _ _ _ _ _ _ _ _ _ _ _ _ _ _ _ _ _ _ _ _ _ _ _ _ _ _ _ _ _ _ _ _ _ _ _ _ _ _ _ _ _ _ _ _ _ _ _ _ _ _ _ _ _ _ _ _ _ _ _ _ _ _ _ _ _ _ _ _ _ _ _ _ _ _ _ _ _ _ _ _ _ _ _ _ _ _ _ _ _ _ _ _ _ _ _ _ _ _ _ _ _ _ _ _ _ _ _ _ _ _ _ _ _ _ _ _ _ _ _ _ _ _ _ _ _ _ _ _ _ _ _ _ _ _ _ _ _ _ _ _ _
   ·intro y0 y1 y2 y3 y5 y6 y7 y8 y9 el em en eo ep er es et eu ev ew ex ey ez e0 e1 e2 e3 e4 e5 e6 e7 e8 e9 fb fd fe ff fg fh fi fj fk fl fm fn fo fp fq ft fu fv fw fx fy fz f0 f1 f2 f3 f4 f6 f7 f8 f9 gb gd ge gf gg gh gi gj gk gl gm gn gp gq gr gs gt gu gv gw gx gy gz g0 g1 g2 g3 g4 g5 g6 g7 g8 g9 ia ib H K M N P Q S T Y Z aa ab ac ad ae af ag ah ai aj ak al am an ap aq ar au av aw ax ay az a0 a1 a2 a3 a4 a5 a6 a7 a8 a9 ba bb bc bd bf bg bh bi bj bk bl bm bn bo bp bq br bs bt bu bv bw bx bz b0 b1 b2 b7 b8 b9 ca cb cc cd ce cf cg ch ci cj ck cl cm cn co cp cq cr cs ct cu cv cw cx cy cz da db dc dd de df dg dh di dj dk dl dm dn dp dq dr ds dt du dv dw dx w3 B b3;go_wp2_with fail;go_ret;exact⟨A6 (by rw[show A8 ahead E=Kw E.points from by simp[A8,o.out,t.out,m.out,u.out,B]]),b3⟩
   intro y2 y3 y6 y7 y8 y9 el em en eo ep er es et eu ev ew ex ey ez e0 e1 e2 e3 e4 e5 e6 e7 e8 e9 fb fd fe ff fg fh fi fj fk fl fm fn fo fp fq ft fu fv fw fx fy fz f0 f1 f2 f3 f4 f6 f7 f8 f9 gb gd ge gf gg gh gi gj gk gl gm gn gp gq gr gs gt gu gv gw gx gy gz g0 g1 g2 g3 g4 g5 g6 g7 g8 g9 ia ib H K M N P Q S T Y Z aa ab ac ad ae af ag ah ai aj ak al am an ap aq ar au av aw ax ay az a0 a1 a2 a3 a4 a5 a6 a7 a8 a9 ba bb bc bd bf bg bh bi bj bk bl bm bn bo bp bq br bs bt bu bv bw bx bz b0 b1 b2 b7 b8 b9 ca cb cc cd ce cf cg ch ci cj ck cl cm cn co cp cq cr cs ct cu cv cw cx cy cz da db dc dd de df dg dh di dj dk dl dm dn dp dq dr ds dt du dv dw dx w3 f5 i5;have B:=G f5;clear f5 d;have d:=G i5;clear i5;obtain⟨c0,c1,c2,c3,c4,c5,c6,c7,c8,c9⟩:=d.cells;have hu:((E.points.length:Int))<=16:=by omega
   by_cases h8:E.count< -1
   ·have C:=G (show Xf E=true from On (.inl h8));go_wp2_with fail;all_goals
     go_ret;exact⟨A6 (by rw[show A8 ahead E=5 from by simp only[A8,o.out,t.out,m.out,u.out,B.out,C.out];simp];rfl),d.bel⟩
   by_cases h9:(E.points.length:Int)<=E.count
   ·have C:=G (show Xf E=true from On (.inr h9));go_wp2_with fail;all_goals
     go_ret;exact⟨A6 (by rw[show A8 ahead E=5 from by simp only[A8,o.out,t.out,m.out,u.out,B.out,C.out];simp];rfl),d.bel⟩
   have C:=G (show Xf E=false from N1 (by omega));go_wp2_with fail;refine(Z3 R E _ _ _ _ _ w3 d.sl (Bw hR d.bel) hE).mono ?_;rintro e w4 ⟨rfl,b4⟩;have i6:=G (d.below b4);clear c0 c1 c2 c3 c4 c5 c6 c7 c8 c9 b4 d;have d:=i6;clear i6;obtain⟨c0,c1,c2,c3,c4,c5,c6,c7,c8,c9⟩:=d.cells;cases ii:Jh E with
   |true=>
    have F7:=G ii;clear ii;go_wp2_with fail;all_goals
     go_ret;exact⟨A6 (by rw[show A8 ahead E=5 from by simp only[A8,o.out,t.out,m.out,u.out,B.out,C.out,F7.out];simp];rfl),d.bel⟩
   |false=>
   have F7:=G ii;clear ii;go_upto_region 27 with fail;go_cut [124] (fun jj wx=>jj=ZK (Tl E)/\ZG (EB w R E (F pa E.points.length pc) (F ga E.gaps.length gc) (F ea E.edges.length ec) (F fa E.first.length fc) (F la E.last.length lc) w.heap.size wx));case first=>
    by_cases ej:E.count= -1
    ·have iv:(E.count== -1)=true:=by simp[ej]
     by_cases ic:E.mn=0
     ·have iw:(E.mn != 0)=false:=by simp[ic]
      by_cases im:E.mx=0
      ·have ix:(E.mx != 0)=false:=by simp[im]
       have a:=G (show Tl E=false from N1 (by omega));clear ej ic im;go_wp2_with fail;all_goals
        go_meet;exact⟨by rw[a.out];try rfl,d⟩
      ·have ix:(E.mx != 0)=true:=by simp[im]
       have a:=G (show Tl E=true from On (by omega));clear ej ic;go_wp2_with fail;all_goals
        go_meet;exact⟨by rw[a.out];try rfl,d⟩
     ·have iw:(E.mn != 0)=true:=by simp[ic]
      have a:=G (show Tl E=true from On (by omega));clear ej;go_wp2_with fail;all_goals
       go_meet;exact⟨by rw[a.out];try rfl,d⟩
    ·have iv:(E.count== -1)=false:=by simp[ej]
     have a:=G (show Tl E=false from N1 (by omega));go_wp2_with fail;all_goals
      go_meet;exact⟨by rw[a.out];try rfl,d⟩
   case rest=>
   clear c0 c1 c2 c3 c4 c5 c6 c7 c8 c9 d;obtain⟨rfl,d⟩:=hcut;obtain⟨c0,c1,c2,c3,c4,c5,c6,c7,c8,c9⟩:=d.cells;cases ie:Tl E with
   |true=>
    have F8:=G ie;clear ie;go_wp2_with fail;all_goals
     go_ret;exact⟨A6 (by rw[show A8 ahead E=3 from by simp only[A8,o.out,t.out,m.out,u.out,B.out,C.out,F7.out,F8.out];simp];rfl),d.bel⟩
   |false=>
   have F8:=G ie;clear ie;by_cases jv:E.mn<0
   ·have F9:=G (show Ve E=true from On (.inl jv));go_wp2_with fail;all_goals
     go_ret;exact⟨A6 (by rw[show A8 ahead E=2 from by simp only[A8,o.out,t.out,m.out,u.out,B.out,C.out,F7.out,F8.out,F9.out];simp];rfl),d.bel⟩
   by_cases jw:E.mx<E.mn
   ·have F9:=G (show Ve E=true from On (.inr (.inl jw)));go_wp2_with fail;all_goals
     go_ret;exact⟨A6 (by rw[show A8 ahead E=2 from by simp only[A8,o.out,t.out,m.out,u.out,B.out,C.out,F7.out,F8.out,F9.out];simp];rfl),d.bel⟩
   by_cases jx:1000<=E.mx
   ·have F9:=G (show Ve E=true from On (.inr (.inr jx)));go_wp2_with fail;all_goals
     go_ret;exact⟨A6 (by rw[show A8 ahead E=2 from by simp only[A8,o.out,t.out,m.out,u.out,B.out,C.out,F7.out,F8.out,F9.out];simp];rfl),d.bel⟩
   have F9:=G (show Ve E=false from N1 (by omega));go_wp2_with fail;clear c0 c1 c2 c3 c4 c5 c6 c7 c8 c9;refine Al4 R E _ _ _ _ _ _ _ _ w _ hE d _ ?_ ?_ _ _ _ _ _ _ _ _ _ _ _ _ _ _ _ _ _ _ _ _ _ _ _ _ _ _ _ _ _ _ _ _ _ _ _ _ _ _ _ _ _ _ _ _ _ _ _ _ _ _ _ _ _ _ _ _ _ _ _ _ _ _ _ _ _ _ _ _ _ _ _ _ _ _ _ _ _ _ _ _ _ _ _ _ _ _ _ _ _ _ _ _ _ _ _ _ _ _ _ _ _ _ _ _ _ _ _ _ _ _ _ _ _ _ _ _ _ _ _ _ _ _ _ _ _ _ _ _ _ _ _ _ _ _ _ _ _ _ _ _ _ _ _ _ _ _ _ _ _ _ _ _ _ _ _ _ _ _ _ _ _ _ _ _ _ _ _ _ _ _ _ _ _ _ _ _ _ _ _ _ _ _ _ _ _ _ _ _ _ _ _ _ _ _ _ _ _ _ _ _ _ _ _ _ _ _ _ _ _ _ _ _ _ _ _ _ _
   ·intro y0 y1 y2 y3 y5 y6 y7 y8 y9 el em en eo ep er es et eu ev ew ex ey ez e0 e1 e2 e3 e4 e5 e6 e7 e8 e9 fb fd fe ff fg fh fi fj fk fl fm fn fo fp fq ft fu fv fw fx fy fz f0 f1 f2 f3 f4 f6 f7 f8 f9 gb gd ge gf gg gh gi gj gk gl gm gn gp gq gr gs gt gu gv gw gx gy gz g0 g1 g2 g3 g4 g5 g6 g7 g8 g9 ia ib H K M N P Q S T Y Z aa ab ac ad ae af ag ah ai aj ak al am an ap aq ar au av aw ax ay az a0 a1 a2 a3 a4 a5 a6 a7 a8 a9 ba bb bc bd bf bg bh bi bj bk bl bm bn bo bp bq br bs bt bu bv bw bx bz b0 b1 b2 b7 b8 b9 ca cb cc cd ce cf cg ch ci cj ck cl cm cn co cp cq cr cs ct cu cv cw cx cy cz da db dc dd de df dg dh di dj dk dl dm dn dp dq dr ds dt du dv dw dx w5 y b5;go_wp2_with fail;go_ret;exact⟨A6 (by rw[show A8 ahead E=2 from by simp only[A8,o.out,t.out,m.out,u.out,B.out,C.out,F7.out,F8.out,F9.out,y];simp];rfl),b5⟩
   intro y2 y3 y6 y7 y8 y9 el em en eo ep er es et eu ev ew ex ey ez e0 e1 e2 e3 e4 e5 e6 e7 e8 e9 fb fd fe ff fg fh fi fj fk fl fm fn fo fp fq ft fu fv fw fx fy fz f0 f1 f2 f3 f4 f6 f7 f8 f9 gb gd ge gf gg gh gi gj gk gl gm gn gp gq gr gs gt gu gv gw gx gy gz g0 g1 g2 g3 g4 g5 g6 g7 g8 g9 ia ib H K M N P Q S T Y Z aa ab ac ad ae af ag ah ai aj ak al am an ap aq ar au av aw ax ay az a0 a1 a2 a3 a4 a5 a6 a7 a8 a9 ba bb bc bd bf bg bh bi bj bk bl bm bn bo bp bq br bs bt bu bv bw bx bz b0 b1 b2 b7 b8 b9 ca cb cc cd ce cf cg ch ci cj ck cl cm cn co cp cq cr cs ct cu cv cw cx cy cz da db dc dd de df dg dh di dj dk dl dm dn dp dq dr ds dt du dv dw dx w5 it i7;have y:=G it;clear it d;have d:=G i7;clear i7;go_wp2_with fail;refine Akg R E _ _ _ _ _ _ _ _ w _ hE d _ ?_ ?_ _ _ _ _ _ _ _ _ _ _ _ _ _ _ _ _ _ _ _ _ _ _ _ _ _ _ _ _ _ _ _ _ _ _ _ _ _ _ _ _ _ _ _ _ _ _ _ _ _ _ _ _ _ _ _ _ _ _ _ _ _ _ _ _ _ _ _ _ _ _ _ _ _ _ _ _ _ _ _ _ _ _ _ _ _ _ _ _ _ _ _ _ _ _ _ _ _ _ _ _ _ _ _ _ _ _ _ _ _ _ _ _ _ _ _ _ _ _ _ _ _ _ _ _ _ _ _ _ _ _ _ _ _ _ _ _ _ _ _ _ _ _ _ _ _ _ _ _ _ _ _ _ _ _ _ _ _ _ _ _ _ _ _ _ _ _ _ _ _ _ _ _ _ _ _ _ _ _ _ _ _ _ _ _ _ _ _ _ _ _ _ _ _ _ _ _ _ _ _ _ _ _ _ _ _ _ _ _ _ _ _ _ _ _ _ _ _
   ·intro y0 y1 y2 y3 y5 y6 y7 y8 y9 el em en eo ep er es et eu ev ew ex ey ez e0 e1 e2 e3 e4 e5 e6 e7 e8 e9 fb fd fe ff fg fh fi fj fk fl fm fn fo fp fq ft fu fv fw fx fy fz f0 f1 f2 f3 f4 f6 f7 f8 f9 gb gd ge gf gg gh gi gj gk gl gm gn gp gq gr gs gt gu gv gw gx gy gz g0 g1 g2 g3 g4 g5 g6 g7 g8 g9 ia ib H K M N P Q S T Y Z aa ab ac ad ae af ag ah ai aj ak al am an ap aq ar au av aw ax ay az a0 a1 a2 a3 a4 a5 a6 a7 a8 a9 ba bb bc bd bf bg bh bi bj bk bl bm bn bo bp bq br bs bt bu bv bw bx bz b0 b1 b2 b7 b8 b9 ca cb cc cd ce cf cg ch ci cj ck cl cm cn co cp cq cr cs ct cu cv cw cx cy cz da db dc dd de df dg dh di dj dk dl dm dn dp dq dr ds dt du dv dw dx w6 A b6;go_wp2_with fail;go_ret;exact⟨A6 (by rw[show A8 ahead E=6 from by simp only[A8,o.out,t.out,m.out,u.out,B.out,C.out,F7.out,F8.out,F9.out,y.out,A];simp];rfl),b6⟩
   intro y2 y3 y6 y7 y8 y9 el em en eo ep er es et eu ev ew ex ey ez e0 e1 e2 e3 e4 e5 e6 e7 e8 e9 fb fd fe ff fg fh fi fj fk fl fm fn fo fp fq ft fu fv fw fx fy fz f0 f1 f2 f3 f4 f6 f7 f8 f9 gb gd ge gf gg gh gi gj gk gl gm gn gp gq gr gs gt gu gv gw gx gy gz g0 g1 g2 g3 g4 g5 g6 g7 g8 g9 ia ib H K M N P Q S T Y Z aa ab ac ad ae af ag ah ai aj ak al am an ap aq ar au av aw ax ay az a0 a1 a2 a3 a4 a5 a6 a7 a8 a9 ba bb bc bd bf bg bh bi bj bk bl bm bn bo bp bq br bs bt bu bv bw bx bz b0 b1 b2 b7 b8 b9 ca cb cc cd ce cf cg ch ci cj ck cl cm cn co cp cq cr cs ct cu cv cw cx cy cz da db dc dd de df dg dh di dj dk dl dm dn dp dq dr ds dt du dv dw dx w6 iu i8;have A:=G iu;clear iu d;have d:=G i8;clear i8;obtain⟨c0,c1,c2,c3,c4,c5,c6,c7,c8,c9⟩:=d.cells;go_wp2_with fail;refine(kM R E.first _ w6 d.sl.f (by have:=hE.f;omega)).mono ?_;rintro e w7 ⟨rfl,nq,rfl⟩;have i9:=G (d.keep (Ck nq (Ac.refl (fun _=>False) _)) (fun _ h _=>h.elim));clear c0 c1 c2 c3 c4 c5 c6 c7 c8 c9 d;have d:=i9;clear i9;generalize World.drewN _ _=w7 at d ⊢;obtain⟨c0,c1,c2,c3,c4,c5,c6,c7,c8,c9⟩:=d.cells;cases ik:H8 E.first with
   |true=>
    have d9:=G ik;clear ik;go_wp2_with fail;all_goals
     go_ret;exact⟨A6 (by rw[show A8 ahead E=6 from by simp only[A8,o.out,t.out,m.out,u.out,B.out,C.out,F7.out,F8.out,F9.out,y.out,A.out,d9.out];simp];rfl),d.bel⟩
   |false=>
   have d9:=G ik;clear ik;go_wp2_with fail;refine(kM R E.last _ w7 d.sl.l (by have:=hE.l;omega)).mono ?_;rintro e w8 ⟨rfl,j3,rfl⟩;have ja:=G (d.keep (Ck j3 (Ac.refl (fun _=>False) _)) (fun _ h _=>h.elim));clear c0 c1 c2 c3 c4 c5 c6 c7 c8 c9 d;have d:=ja;clear ja;generalize World.drewN _ _=w8 at d ⊢;obtain⟨c0,c1,c2,c3,c4,c5,c6,c7,c8,c9⟩:=d.cells;cases ij:H8 E.last with
   |true=>
    have ee:=G ij;clear ij;go_wp2_with fail;all_goals
     go_ret;exact⟨A6 (by rw[show A8 ahead E=6 from by simp only[A8,o.out,t.out,m.out,u.out,B.out,C.out,F7.out,F8.out,F9.out,y.out,A.out,d9.out,ee.out];simp];rfl),d.bel⟩
   |false=>
   have ee:=G ij;clear ij;by_cases iy:0<E.edges.length
   ·have ei:=G (show s2W E=false from N1 (by omega));have iz:((E.edges.length:Int)==0)=false:=beq_eq_false_iff_ne.2 (by omega);by_cases eh:E.first.length=0
    ·have i0:((E.first.length:Int)==0)=true:=by simp[eh]
     have ef:=G (show s1W E=true from On ⟨iy,eh⟩);have ks:=G eh;clear eh;go_wp2_with fail;all_goals
      go_ret;exact⟨A6 (by rw[show A8 ahead E=3 from by simp only[A8,o.out,t.out,m.out,u.out,B.out,C.out,F7.out,F8.out,F9.out,y.out,A.out,d9.out,ee.out,ef.out];simp];rfl),d.bel⟩
    ·have i0:((E.first.length:Int)==0)=false:=by simp[eh]
     have ef:=G (show s1W E=false from N1 (fun h=>eh h.2));go_wp2_with fail;all_goals
      go_ret;exact⟨A6 (by rw[show A8 ahead E=0 from by simp only[A8,o.out,t.out,m.out,u.out,B.out,C.out,F7.out,F8.out,F9.out,y.out,A.out,d9.out,ee.out,ef.out,ei.out];simp];rfl),d.bel⟩
   ·have ef:=G (show s1W E=false from N1 (fun h=>iy h.1));have iz:((E.edges.length:Int)==0)=true:=beq_iff_eq.2 (by omega);by_cases kx:0<E.first.length+E.last.length
    ·have ei:=G (show s2W E=true from On (by omega));have i1:(0:Int)<(E.first.length:Int)+E.last.length:=by omega
     go_wp2_with fail;all_goals
      go_ret;exact⟨A6 (by rw[show A8 ahead E=3 from by simp only[A8,o.out,t.out,m.out,u.out,B.out,C.out,F7.out,F8.out,F9.out,y.out,A.out,d9.out,ee.out,ef.out,ei.out];simp];rfl),d.bel⟩
    ·have ei:=G (show s2W E=false from N1 (by omega));have i1:¬(0:Int)<(E.first.length:Int)+E.last.length:=by omega
     go_wp2_with fail;all_goals
      go_ret;exact⟨A6 (by rw[show A8 ahead E=0 from by simp only[A8,o.out,t.out,m.out,u.out,B.out,C.out,F7.out,F8.out,F9.out,y.out,A.out,d9.out,ee.out,ef.out,ei.out];simp];rfl),d.bel⟩
theorem Afg(w:V)(s:ByteArray):∃cap w',(convert 9 85 (ZB s)).run ZI w=.ok (F (U ⟨w.heap.size,0,O⟩) s.size cap) w'/\(∀j (hj:j<s.size),w'.cell? ⟨w.heap.size,j,O⟩=U (I .u8 (s[j].toNat:Int)))/\ZF w.heap.size w w':=by
 have h:=run_bytes_of_string w 9 85 5 s underlying9 underlying85 underlying5;refine⟨_,_,h,fun j hj=>?_,((R1 w.heap.size w).drew).alloc (Y2 _) _⟩;have e:w.heap.size=w.drew.heap.size:=rfl;conv=>lhs;arg 2;rw[e]
 rw[World.cell?_alloc_mark];exact bytesRow_at s _ j hj
def L8(c:UInt8):Bool:=!decide (97<=c.toNat/\c.toNat<=122)&&(!decide (48<=c.toNat/\c.toNat<=57)&& !decide (c.toNat=45))
def Rh(s:ByteArray):Bool:=(List.range s.size).any (fun i=>L8 (s.data.toList.getD i 0))
theorem Zr{s:ByteArray}(i:Nat)(hi:i<s.size)(h:L8 s[i]=true):Rh s=true:=
 List.any_eq_true.2 ⟨i,List.mem_range.2 hi,by rw[Rt s i hi];exact h⟩
theorem Aaj{s:ByteArray}(h:∀i (hi:i<s.size),L8 s[i]=false):Rh s=false:=
 List.any_eq_false.2 (fun i hi=>by
  have a:=List.mem_range.1 hi
  rw[Rt s i a,h i a];decide)
theorem tR{s:ByteArray}(h:Rh s=false):∀i (hi:i<s.size),L8 s[i]=false:=fun i hi=>by
 cases a:L8 s[i]
 ·rfl
 ·rw[Zr i hi a]at h;cases h
theorem Aiz{s:ByteArray}(h1:1<=s.size)(h2:s.size<=12)(h3:97<=(s[0]'(by omega)).toNat/\(s[0]'(by omega)).toNat<=122):Bt s= !Rh s:=by
 cases e:Rh s
 ·refine Ui ⟨h1,h2⟩ (fun i hi=>?_);have:=tR e i hi;unfold L8 at this;unfold okN;rw[decide_eq_true_iff];by_cases d:i=0
  ·subst d;exact .inl h3
  ·simp at this;omega
 ·have:∃i,∃hi:i<s.size,L8 s[i]=true:=by
   obtain⟨i,hi,h⟩:=List.any_eq_true.1 e;have a:=List.mem_range.1 hi;exact⟨i,a,by rw[Rt s i a]at h;exact h⟩
  obtain⟨i,hi,h⟩:=this;refine Ho i hi ?_;unfold L8 at h;unfold okN;simp at h;rw[decide_eq_false_iff_not];omega
theorem Wm{s:ByteArray}(h1:1<=s.size)(h3:¬(97<=(s[0]'(by omega)).toNat/\(s[0]'(by omega)).toNat<=122)):Bt s=false:=by
 refine Ho 0 h1 ?_;unfold okN;rw[decide_eq_false_iff_not];simp;omega
theorem Agc(c:UInt8)(w:V):ZH ZI 202 #[I .u8 (c.toNat:Int)] w fun e w'=>e=ZD (ZK (L8 c))/\w=w':=by
 obtain⟨x,i⟩:∃x:Int,x=(c.toNat:Int):=⟨_,rfl⟩
 rw[<-i];have d:=G i;clear i;by_cases h1:97<=x
 ·by_cases h2:x<=122
  ·have a:=G (show L8 c=false from by have:=d.out;unfold L8;rw[On (show 97<=c.toNat/\c.toNat<=122 by omega)];rfl);go_enter func202,ntmps202;go_wp2_with fail;go_ret;exact⟨Am a.symm,rfl⟩
  ·have h3:48<=x:=by omega
   have j:¬x<=57:=by omega
   have g:(x != 45)=true:=by simp;omega
   have a:=G (show L8 c=true from by have:=d.out;unfold L8;rw[N1 (show ¬(97<=c.toNat/\c.toNat<=122)by omega),N1 (show ¬(48<=c.toNat/\c.toNat<=57)by omega),N1 (show ¬c.toNat=45 by omega)];rfl);go_enter func202,ntmps202;go_wp2_with fail;go_ret;exact⟨Am a.symm,rfl⟩
 ·by_cases h3:48<=x
  ·by_cases j:x<=57
   ·have a:=G (show L8 c=false from by have:=d.out;unfold L8;rw[N1 (show ¬(97<=c.toNat/\c.toNat<=122)by omega),On (show 48<=c.toNat/\c.toNat<=57 by omega)];rfl);go_enter func202,ntmps202;go_wp2_with fail;go_ret;exact⟨Am a.symm,rfl⟩
   ·have g:(x != 45)=true:=by simp;omega
    have a:=G (show L8 c=true from by have:=d.out;unfold L8;rw[N1 (show ¬(97<=c.toNat/\c.toNat<=122)by omega),N1 (show ¬(48<=c.toNat/\c.toNat<=57)by omega),N1 (show ¬c.toNat=45 by omega)];rfl);go_enter func202,ntmps202;go_wp2_with fail;go_ret;exact⟨Am a.symm,rfl⟩
  ·by_cases f:x=45
   ·have g:(x != 45)=false:=by simp[f]
    have a:=G (show L8 c=false from by have:=d.out;unfold L8;rw[N1 (show ¬(97<=c.toNat/\c.toNat<=122)by omega),N1 (show ¬(48<=c.toNat/\c.toNat<=57)by omega),On (show c.toNat=45 by omega)];rfl);clear f;go_enter func202,ntmps202;go_wp2_with fail;go_ret;exact⟨Am a.symm,rfl⟩
   ·have g:(x != 45)=true:=by simp;exact f
    have a:=G (show L8 c=true from by have:=d.out;unfold L8;rw[N1 (show ¬(97<=c.toNat/\c.toNat<=122)by omega),N1 (show ¬(48<=c.toNat/\c.toNat<=57)by omega),N1 (show ¬c.toNat=45 by omega)];rfl);clear f;go_enter func202,ntmps202;go_wp2_with fail;go_ret;exact⟨Am a.symm,rfl⟩
def wW:ZE:=.func (.func 202) #[] #[]
theorem xX(s:ByteArray)(b cap:Nat)(w:V)(h:∀j (hj:j<s.size),w.cell? ⟨b,j,O⟩=U (I .u8 (s[j].toNat:Int)))(n:s.size<=1000000):
  ZH ZI 241 #[F (U ⟨b,0,O⟩) s.size cap,wW] w fun e w'=>∃r:Int,e=ZD (I J r)/\decide (0<=r)=Rh s/\w=w':=by
 have H:=G h;clear h;unfold wW;go_enter func241,ntmps241;go_wp2_with fail;go_loop [8] (fun t=>∃k:Nat,k<=s.size/\t=I J k/\ZG (∀j (hj:j<s.size),j<k->L8 s[j]=false)) (fun t=>s.size-(intOf t).toNat);case atStart=>exact⟨0,In _,rfl,fun j hj h=>by omega⟩
 case round=>
  obtain⟨k,m,rfl,a⟩:=hrel;by_cases f:k<s.size
  ·have q:=H k f;have g:=G (Agc s[k] w);cases d:L8 s[k]
   ·rw[d]at g;have l:ZG (∀j (hj:j<s.size),j<k+1->L8 s[j]=false):=G (fun j hj h=>by
     by_cases e:j=k
     ·subst e;exact d
     ·exact a j hj (by omega))
    clear d a;go_wp2_with fail;refine g.mono ?_;rintro e w' ⟨rfl,rfl⟩;go_wp2_with fail;go_round;case rel=>exact⟨k+1,by omega,by go_num,l⟩
    case measure=>simp[intOf];omega
   ·rw[d]at g;have i:=G (Zr k f d);clear d a;go_wp2_with fail;refine g.mono ?_;rintro e w' ⟨rfl,rfl⟩;go_wp2_with fail;go_ret;exact⟨_,rfl,by rw[i.out];exact On (by omega),rfl⟩
  ·have i:=G (Aaj (s:=s) (fun j hj=>a j hj (by omega)));clear a;go_wp2_with fail;go_ret;exact⟨_,rfl,by rw[i.out];rfl,rfl⟩
theorem Aaa(s:ByteArray)(b cap:Nat)(w:V)(h:∀j (hj:j<s.size),w.cell? ⟨b,j,O⟩=U (I .u8 (s[j].toNat:Int)))(f:s.size<=1000000):
  ZH ZI 201 #[F (U ⟨b,0,O⟩) s.size cap,wW] w fun e w'=>e=ZD (ZK (Rh s))/\w=w':=by
 have H:=G (xX s b cap w h f);clear h;unfold wW at H ⊢;go_enter func201,ntmps201;go_wp2_with fail;refine H.mono ?_;rintro e w' ⟨r,rfl,a,rfl⟩;have d:=G a;clear a;go_wp2_with fail;go_ret;exact⟨Am d.out,rfl⟩
theorem Uu(s:ByteArray)(w:V):ZH ZI 163 #[ZB s] w fun e w'=>e=ZD (ZK (Bt s))/\ZF w.heap.size w w':=by
 have f:s.toList.length=s.size:=by rw[Zz3,C2];rfl
 by_cases h0:s.size=0
 ·have d:=G (Hz (s:=s) (by omega));have p:s.toList.isEmpty=true:=by
   rw[H3 (show s.toList.length=0 by omega)];rfl
  clear h0 f;go_enter func163,ntmps163;go_wp2_with fail;go_ret;exact⟨Am d.symm,R1 _ _⟩
 have p:s.toList.isEmpty=false:=by
  cases t:s.toList with
  |nil=>rw[t]at f;exact(h0 (by rw[<-f];rfl)).elim
  |cons _ _=>rfl
 clear f;have a:0<s.size:=by omega
 by_cases n:12<s.size
 ·have d:=G (Hz (s:=s) (by omega));go_enter func163,ntmps163;go_wp2_with fail;go_ret;exact⟨Am d.symm,R1 _ _⟩
 by_cases o:97<=((s[0]'a).toNat:Int)
 ·by_cases m:((s[0]'a).toNat:Int)<=122
  ·have d:=G (Aiz a (by omega) (show 97<=(s[0]'a).toNat/\(s[0]'a).toNat<=122 by omega));obtain⟨cap,w1,q,g,i⟩:=Afg w s;have l:=G (Aaa s w.heap.size cap w1 g (by omega));have j:=G i;clear g i;unfold wW at l;go_enter func163,ntmps163;go_wp2_with fail;refine l.mono ?_;rintro e w' ⟨rfl,rfl⟩;rw[show Rh s= !Bt s from by rw[d.out,Bool.not_not]];go_wp2_with fail;go_ret;exact⟨Am (by first|rfl|simp),j.out⟩
  ·have d:=G (Wm a (by omega));go_enter func163,ntmps163;go_wp2_with fail;go_ret;exact⟨Am d.symm,R1 _ _⟩
 ·have d:=G (Wm a (by omega));go_enter func163,ntmps163;go_wp2_with fail;go_ret;exact⟨Am d.symm,R1 _ _⟩
theorem Ake(X:A2)(nm:ByteArray)(a:Nat)(w:V)(h:w.cell? ⟨a,0,O⟩=U (ZB nm)):
  ZH ZI 165 #[ZJ (As X.E X.p X.g X.e X.f X.l),ZA (U ⟨a,0,O⟩)] w fun e w'=>e=ZD (ZK (X.E.name.toList==nm.toList))/\ZF w.heap.size w w':=by
 have d:=R3 _ ⟨a,0,O⟩ h;have q:=Aaf h (.cells (As X.E X.p X.g X.e X.f X.l) 50);have hne:¬a=w.heap.size:=by simp only at d;omega
 have i:¬w.heap.size=a:=by simp only at d;omega
 clear h;unfold As at q ⊢;go_enter func165,ntmps165;go_wp2_with fail;go_ret;exact⟨rfl,(R1 _ _).alloc (Y2 _) _⟩
def zB(eb:Nat):ZE:=.func (.func 165) #[] #[ZA (U ⟨eb,0,O⟩)]
theorem Ac0(R:Nat->Prop)(X:List A2)(v:ZE)(nm:ByteArray)(l:Nat)(w:V)(h:Av R w v 10 (X.flatMap A5) X.length)(M:∀b,R b->b<w.heap.size)(hX:X.length<=100000)(y:w.cell? ⟨l,0,O⟩=U (ZB nm)):
  ZH ZI 203 #[v,zB l] w fun e w'=>∃r:Int,e=ZD (I J r)/\decide (0<=r)=B3 (X.map Ma) nm/\ZF w.heap.size w w':=by
 obtain⟨ao,cap,rfl⟩:=h.val;have H:=G h;have D:=G y;have A:=R3 _ ⟨l,0,O⟩ y;clear h y;unfold zB;go_enter func203,ntmps203;go_wp2_with fail;go_loopw [8] (fun t wr=>∃k:Nat,k<=X.length/\t=I J k/\ZF w.heap.size w wr/\ZG (∀j (f:j<X.length),j<k->X[j].E.name.toList≠nm.toList)) (fun t _=>X.length-(intOf t).toNat);case atStart=>exact⟨0,In _,rfl,R1 _ _,fun j f h=>by omega⟩
 case round=>
  obtain⟨k,hk,rfl,d,a⟩:=hrel;by_cases n:k<X.length
  ·obtain⟨b,off,rfl,q,hb,B⟩:=Ks H (by omega);obtain⟨P,Q,S,T,Y,Z,q6,q7,q8,q9⟩:=B k n;have m:=M b q;rw[<-d.cell m]at P Q S T Y Z q6 q7 q8 q9;have i:=G (Ake X[k] nm l wr (by rw[d.cell (p:=⟨l,0,O⟩) A];exact D.out));unfold As at i;clear B;by_cases g:X[k].E.name.toList=nm.toList
   ·have K:=G (Pt (L:=X.map Ma) (s:=nm) k (by simpa using n) (by simpa [Ma] using g));rw[show(X[k].E.name.toList==nm.toList)=true from by simp[g]]at i;clear g a;go_wp2_with fail;refine i.mono ?_;rintro e w2 ⟨rfl,o⟩;go_wp2_with fail;go_ret;exact⟨_,rfl,by rw[K.out];exact On (by omega),d.trans (o.mono d.size)⟩
   ·rw[show(X[k].E.name.toList==nm.toList)=false from by simp[g]]at i;have N:ZG (∀j (f:j<X.length),j<k+1->X[j].E.name.toList≠nm.toList):=G (fun j f h=>by
     by_cases e:j=k
     ·subst e;exact g
     ·exact a j f (by omega))
    clear g a;go_wp2_with fail;refine i.mono ?_;rintro e w2 ⟨rfl,o⟩;have u:=d.trans (o.mono d.size);clear o;go_wp2_with fail;go_roundw;case rel=>exact⟨k+1,by omega,by go_num,u,N⟩
    case measure=>simp[intOf];omega
  ·have C:=G (Q4 (L:=X.map Ma) (s:=nm) (fun j f=>by simpa [Ma] using a j (by simpa using f) (by have:j<X.length:=(by simpa using f);omega)));clear a;go_wp2_with fail;go_ret;exact⟨_,rfl,by rw[C.out];rfl,d⟩
theorem Ad9(R:Nat->Prop)(X:List A2)(v:ZE)(nm:ByteArray)(a:Nat)(w:V)(h:Av R w v 10 (X.flatMap A5) X.length)(i:∀b,R b->b<w.heap.size)(j:X.length<=100000)(d:w.cell? ⟨a,0,O⟩=U (ZB nm)):
  ZH ZI 164 #[v,zB a] w fun e w'=>e=ZD (ZK (B3 (X.map Ma) nm))/\ZF w.heap.size w w':=by
 obtain⟨m,cap,rfl⟩:=h.val;have H:=G (Ac0 R X _ nm a w h i j d);clear h d;unfold zB at H ⊢;go_enter func164,ntmps164;go_wp2_with fail;refine H.mono ?_;rintro e w' ⟨r,rfl,f,l⟩;have g:=G f;clear f;go_wp2_with fail;go_ret;exact⟨Am g.out,l⟩
def Nx(n:Int)(p:Int):Bool:=decide (p<0\/n<=p)
theorem Ah2(p n:Int)(nb:Nat)(w:V)(h:w.cell? ⟨nb,0,O⟩=U (I J n)):
  ZH ZI 244 #[I J p,ZA (U ⟨nb,0,O⟩)] w fun e w'=>e=ZD (ZK (Nx n p))/\w=w':=by
 by_cases h1:p<0
 ·have a:=G (show Nx n p=true from On (.inl h1));go_enter func244,ntmps244;go_wp2_with fail;go_ret;exact⟨Am a.symm,rfl⟩
 ·have a:=G (show Nx n p=decide (n<=p)from by unfold Nx;rw[decide_eq_decide];omega);go_enter func244,ntmps244;go_wp2_with fail;go_ret;exact⟨Am a.symm,rfl⟩
def vK(nb:Nat):ZE:=.func (.func 244) #[] #[ZA (U ⟨nb,0,O⟩)]
theorem Acx(R:Nat->Prop)(l:List Int)(v:ZE)(n:Int)(nb:Nat)(w:V)(h:Av R w v 1 (Ad l) l.length)(D:l.length<=100000)(p:w.cell? ⟨nb,0,O⟩=U (I J n)):
  ZH ZI 278 #[v,vK nb] w fun e w'=>∃r:Int,e=ZD (I J r)/\decide (0<=r)=l.any (Nx n)/\w=w':=by
 obtain⟨B,cap,rfl⟩:=h.val;have H:=G h;have s:=G p;clear h p;unfold vK;go_enter func278,ntmps278;go_wp2_with fail;go_loop [8] (fun t=>∃k:Nat,k<=l.length/\t=I J k/\ZG (∀j (f:j<l.length),j<k->Nx n l[j]=false)) (fun t=>l.length-(intOf t).toNat);case atStart=>exact⟨0,In _,rfl,fun j f h=>by omega⟩
 case round=>
  obtain⟨k,C,rfl,a⟩:=hrel;by_cases g:k<l.length
  ·obtain⟨b,off,rfl,u,_,o⟩:=I4 H (by omega);have q:=o k g;clear o;have i:=G (Ah2 l[k] n nb w s.out);cases d:Nx n l[k]
   ·rw[d]at i;have A:ZG (∀j (f:j<l.length),j<k+1->Nx n l[j]=false):=G (fun j f h=>by
     by_cases e:j=k
     ·subst e;exact d
     ·exact a j f (by omega))
    clear d a;go_wp2_with fail;refine i.mono ?_;rintro e w' ⟨rfl,rfl⟩;go_wp2_with fail;go_round;case rel=>exact⟨k+1,by omega,by go_num,A⟩
    case measure=>simp[intOf];omega
   ·rw[d]at i;have m:=G (List.any_eq_true.2 ⟨l[k],M2 g,d⟩);clear d a;go_wp2_with fail;refine i.mono ?_;rintro e w' ⟨rfl,rfl⟩;go_wp2_with fail;go_ret;exact⟨_,rfl,by rw[m.out];exact On (by omega),rfl⟩
  ·have m:ZG (l.any (Nx n)=false):=List.any_eq_false.2 (fun x y=>by
    obtain⟨j,f,rfl⟩:=List.mem_iff_getElem.1 y;rw[a j f (by omega)];decide)
   clear a;go_wp2_with fail;go_ret;exact⟨_,rfl,by rw[m.out];rfl,rfl⟩
theorem Ad7(R:Nat->Prop)(l:List Int)(v:ZE)(n:Int)(nb:Nat)(w:V)(h:Av R w v 1 (Ad l) l.length)(g:l.length<=100000)(a:w.cell? ⟨nb,0,O⟩=U (I J n)):
  ZH ZI 243 #[v,vK nb] w fun e w'=>e=ZD (ZK (l.any (Nx n)))/\w=w':=by
 obtain⟨i,cap,rfl⟩:=h.val;have H:=G (Acx R l _ n nb w h g a);clear h a;unfold vK at H ⊢;go_enter func243,ntmps243;go_wp2_with fail;refine H.mono ?_;rintro e w' ⟨r,rfl,d,rfl⟩;have f:=G d;clear d;go_wp2_with fail;go_ret;exact⟨Am f.out,rfl⟩
theorem Akb(g:Ix)(w:V):
  ZH ZI 209 #[ZJ #[I J g.fr,I J g.dst,I J g.mn,I J g.mx]] w fun e w'=>e=ZD (ZK (Ce g))/\ZF w.heap.size w w':=by
 by_cases h1:g.mn<0
 ·have a:=G (show Ce g=true from On (.inl h1));go_enter func209,ntmps209;go_wp2_with fail;go_ret;exact⟨Am a.symm,(R1 _ _).alloc (Y2 _) _⟩
 ·by_cases h2:g.mx<g.mn
  ·have a:=G (show Ce g=true from On (.inr (.inl h2)));go_enter func209,ntmps209;go_wp2_with fail;go_ret;exact⟨Am a.symm,(R1 _ _).alloc (Y2 _) _⟩
  ·have a:=G (show Ce g=decide (1099511627776<g.mx)from by unfold Ce;rw[decide_eq_decide];omega);go_enter func209,ntmps209;go_wp2_with fail;go_ret;exact⟨Am a.symm,(R1 _ _).alloc (Y2 _) _⟩
def yH:ZE:=.func (.func 209) #[] #[]
theorem Acz(R:Nat->Prop)(l:List Ix)(v:ZE)(w:V)(h:Av R w v 4 (l.flatMap Cu) l.length)(B:∀b,R b->b<w.heap.size)(Q:l.length<=100000):
  ZH ZI 245 #[v,yH] w fun e w'=>∃r:Int,e=ZD (I J r)/\decide (0<=r)=l.any Ce/\ZF w.heap.size w w':=by
 obtain⟨N,cap,rfl⟩:=h.val;have H:=G h;clear h;unfold yH;go_enter func245,ntmps245;go_wp2_with fail;go_loopw [8] (fun t wr=>∃k:Nat,k<=l.length/\t=I J k/\ZF w.heap.size w wr/\ZG (∀j (n:j<l.length),j<k->Ce l[j]=false)) (fun t _=>l.length-(intOf t).toNat);case atStart=>exact⟨0,In _,rfl,R1 _ _,fun j n h=>by omega⟩
 case round=>
  obtain⟨k,P,rfl,d,a⟩:=hrel;by_cases i:k<l.length
  ·obtain⟨gb,y,rfl,s,_,g⟩:=H.elem (f:=Cu) (fun _=>rfl) (by decide) (by omega);have A:=g k i 0 _ rfl;have K:=g k i 1 _ rfl;have L:=g k i 2 _ rfl;have M:=g k i 3 _ rfl;rw[<-d.cell (B gb s)]at A K L M;rw[Zzw]at A;clear g;have o:=G (Akb l[k] wr);cases m:Ce l[k]
   ·rw[m]at o;have D:ZG (∀j (n:j<l.length),j<k+1->Ce l[j]=false):=G (fun j n h=>by
     by_cases e:j=k
     ·subst e;exact m
     ·exact a j n (by omega))
    clear m a;go_wp2_with fail;refine o.mono ?_;rintro e E ⟨rfl,p⟩;have u:=d.trans (p.mono d.size);clear p;go_wp2_with fail;go_roundw;case rel=>exact⟨k+1,by omega,by go_num,u,D⟩
    case measure=>simp[intOf];omega
   ·rw[m]at o;have q:=G (List.any_eq_true.2 ⟨l[k],M2 i,m⟩);clear m a;go_wp2_with fail;refine o.mono ?_;rintro e E ⟨rfl,p⟩;go_wp2_with fail;go_ret;exact⟨_,rfl,by rw[q.out];exact On (by omega),d.trans (p.mono d.size)⟩
  ·have q:ZG (l.any Ce=false):=List.any_eq_false.2 (fun x C=>by
    obtain⟨j,n,rfl⟩:=List.mem_iff_getElem.1 C;rw[a j n (by omega)];decide)
   clear a;go_wp2_with fail;go_ret;exact⟨_,rfl,by rw[q.out];rfl,d⟩
theorem Ad8(R:Nat->Prop)(l:List Ix)(v:ZE)(w:V)(h:Av R w v 4 (l.flatMap Cu) l.length)(f:∀b,R b->b<w.heap.size)(i:l.length<=100000):
  ZH ZI 208 #[v,yH] w fun e w'=>e=ZD (ZK (l.any Ce))/\ZF w.heap.size w w':=by
 obtain⟨j,cap,rfl⟩:=h.val;have H:=G (Acz R l _ w h f i);clear h;unfold yH at H ⊢;go_enter func208,ntmps208;go_wp2_with fail;refine H.mono ?_;rintro e w' ⟨r,rfl,a,g⟩;have d:=G a;clear a;go_wp2_with fail;go_ret;exact⟨Am d.out,g⟩
