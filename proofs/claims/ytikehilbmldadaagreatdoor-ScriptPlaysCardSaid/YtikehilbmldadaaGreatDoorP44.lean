import Derived.Test.YtikehilbmldadaaGreatDoorP40
import Derived.Test.YtikehilbmldadaaGreatDoorP22
set_option maxHeartbeats 4000000
set_option maxRecDepth 100000
set_option linter.unusedVariables false
namespace Go.Proofs.YtikehilbmldadaaGreatDoor
open Proofs.Tryz YtikehilbmldadaaGreatDoor.Tryz RowKit
open Go renaming World->V,Value->ZE,RowKit.Below->ZF,Value.int->I,IntKind.i64->J,Value.slice->F,Value.string->ZB,Proofs.Tryz.prog->ZI
open Option renaming some->U,none->O
theorem An4(w0 cd:V)(R:Nat->Prop)(E:Ak)(pa ga ea fa la:Option Addr)(pc gc ec fc lc eb:Nat)(HG:Hid (Ed E))(g4:Hid (EB w0 R E (F pa E.points.length pc) (F ga E.gaps.length gc) (F ea E.edges.length ec) (F fa E.first.length fc) (F la E.last.length lc) eb cd))(S0:ByteArray)(l:List UInt8)(hl:Hid (S0.data.toList=l))(f:l.length<=900000)(Q0:Exit->Act->V->Prop)(x0 x1 x2 x4 x6 x7 x8 ce cf cg ch co cz dk dt du dv dw dx dy dz d3 d4 d5 d6 d7 d8 d9 ed ee ef eg eh ei ej ek em en eo ep er et eu ev ew ex ey ez e0 e1 e2 e3 e4 e5 e6 e7 e8 e9 fb fd fe ff fg fh fi fj fk fl fm fn fo fp fq ft fu fv fw fx fy fz f0 f1 f2 f3 f4 f5 f6 f7 f8 f9 gb gd ge gf gg gh gi m n o q t u v y A B C D H K L M N Q T X Y Z aa ab ac ad ae af ag ah ai aj ak al ci cj ck cl cm cn cp cq cr cs ct cu cv cw cx cy da db dc dd de df dg dh di dj dl dm dn dp dq dr ds am an ao ap aq ar au av aw ax ay az a0 a1 a2 a3 a4 a5 a6 a7 a8 a9 ba bb bc bd bf bg bh bi bj bk bl bm bn bo bp bq br bs bt:ZE)
  (a:∀(y9 y134 y135 y136 y137 y138 y139 y140 y141 y142 y143 y144 y145 y146 y147 y148 y149 y150 y151 y152 y153 y154 y155 y156 y157 y158 y159 y160 y161 y162 y163 y164 y165 y166:ZE) (S1:ByteArray) (w':V),S1.data.toList=l++Ai (E.edges.map (Dg E))->EB w0 R E (F pa E.points.length pc) (F ga E.gaps.length gc) (F ea E.edges.length ec) (F fa E.first.length fc) (F la E.last.length lc) eb w'->Q0 .normal ⟨(List.toArray (x0::x1::x2::(ZB S1)::x4::(.pointer (U ⟨eb,0,O⟩))::x6::x7::x8::y9::ce::cf::cg::ch::co::cz::dk::dt::du::dv::dw::dx::dy::dz::d3::d4::d5::d6::d7::d8::d9::ed::ee::ef::eg::eh::ei::ej::ek::em::en::eo::ep::er::et::eu::ev::ew::ex::ey::ez::e0::e1::e2::e3::e4::e5::e6::e7::e8::e9::fb::fd::fe::ff::fg::fh::fi::fj::fk::fl::fm::fn::fo::fp::fq::ft::fu::fv::fw::fx::fy::fz::f0::f1::f2::f3::f4::f5::f6::f7::f8::f9::gb::gd::ge::gf::gg::gh::gi::m::n::o::q::t::u::v::y::A::B::C::D::H::K::L::M::N::Q::T::X::Y::Z::aa::ab::ac::ad::ae::af::ag::ah::ai::aj::ak::al::y134::y135::y136::y137::y138::y139::y140::y141::y142::y143::y144::y145::y146::y147::y148::y149::y150::y151::y152::y153::y154::y155::y156::y157::y158::y159::y160::y161::y162::y163::y164::y165::y166::am::an::ao::ap::aq::ar::au::av::aw::ax::ay::az::a0::a1::a2::a3::a4::a5::a6::a7::a8::a9::ba::bb::bc::bd::bf::bg::bh::bi::bj::bk::bl::bm::bn::bo::bp::bq::br::bs::bt:: [])),[]⟩ w'):
  Code.wp ZI (qN 6) Q0 ⟨(List.toArray (x0::x1::x2::(ZB S0)::x4::(.pointer (U ⟨eb,0,O⟩))::x6::x7::x8::(I J 0)::ce::cf::cg::ch::co::cz::dk::dt::du::dv::dw::dx::dy::dz::d3::d4::d5::d6::d7::d8::d9::ed::ee::ef::eg::eh::ei::ej::ek::em::en::eo::ep::er::et::eu::ev::ew::ex::ey::ez::e0::e1::e2::e3::e4::e5::e6::e7::e8::e9::fb::fd::fe::ff::fg::fh::fi::fj::fk::fl::fm::fn::fo::fp::fq::ft::fu::fv::fw::fx::fy::fz::f0::f1::f2::f3::f4::f5::f6::f7::f8::f9::gb::gd::ge::gf::gg::gh::gi::m::n::o::q::t::u::v::y::A::B::C::D::H::K::L::M::N::Q::T::X::Y::Z::aa::ab::ac::ad::ae::af::ag::ah::ai::aj::ak::al::ci::cj::ck::cl::cm::cn::cp::cq::cr::cs::ct::cu::cv::cw::cx::cy::da::db::dc::dd::de::df::dg::dh::di::dj::dl::dm::dn::dp::dq::dr::ds::am::an::ao::ap::aq::ar::au::av::aw::ax::ay::az::a0::a1::a2::a3::a4::a5::a6::a7::a8::a9::ba::bb::bc::bd::bf::bg::bh::bi::bj::bk::bl::bm::bn::bo::bp::bq::br::bs::bt:: [])),[]⟩ cd:=by
 have HEXIT:=G a;have HLen:=G f;clear a f;conv=>arg 2;whnf
 go_wp2_with fail;go_loopw [3,9] (fun s3 s9 wr=>∃(k:Nat) (S:ByteArray),k<=E.edges.length/\s3=ZB S/\s9=I J k/\Hid (S.data.toList=l++Ai ((E.edges.take k).map (Dg E)))/\Hid (EB w0 R E (F pa E.points.length pc) (F ga E.gaps.length gc) (F ea E.edges.length ec) (F fa E.first.length fc) (F la E.last.length lc) eb wr)) (fun _ s9 _=>E.edges.length-(intOf s9).toNat);case atStart=>exact⟨0,S0,In _,rfl,rfl,(show S0.data.toList=l++Ai ((E.edges.take 0).map (Dg E))from by rw[hl.out];simp[Ai]),g4⟩
 case round=>
  obtain⟨k,S,hk,rfl,rfl,hS,he⟩:=hrel;obtain⟨c0,c1,c2,c3,c4,c5,c6,c7,c8,c9⟩:=he.cells;have g5:=HG.el;by_cases bx:k<E.edges.length
  ·have gy:S.size<=903296+206*64:=by
    have h1:=Oh (Dg E) E.edges k 64 g5 (fun x hx=>Ow HG x);have h2:=HLen.out;rw[dsize,hS.out,R2];omega
   have b2:=G (Mx (Dg E) E.edges k bx);obtain⟨xb,xo,rfl,i2,i5,b9⟩:=Vv he.sl.e (by omega);obtain⟨r0,r1⟩:=b9 k bx;obtain⟨x,hx⟩:∃x,x=E.edges[k]:=⟨_,rfl⟩
   have cc:=HG.es E.edges[k] (M2 bx);rw[<-hx]at r0 r1 b2 cc;obtain⟨⟨gt,gu⟩,gv,gw⟩:=cc;obtain⟨j1,bv⟩:∃j:Nat,x.1=(j:Int):=⟨x.1.toNat,by omega⟩
   obtain⟨j2,bw⟩:∃j:Nat,x.2=(j:Int):=⟨x.2.toNat,by omega⟩
   have bz:j1<E.points.length:=by omega
   have b0:j2<E.points.length:=by omega
   obtain⟨pb,po,rfl,i1,i4,bu⟩:=E8 he.sl.p (by omega);have q1:=bu j1 bz;have q2:=bu j2 b0;have g7:=HG.ps _ (M2 bz);have g8:=HG.ps _ (M2 b0);have d:=G (Aje E x);rw[Ng bv bz,Ng bw b0]at d;obtain⟨s1,g⟩:∃s,s=E.points[j1]:=⟨_,rfl⟩
   obtain⟨s2,i⟩:∃s,s=E.points[j2]:=⟨_,rfl⟩
   rw[<-g]at q1 g7 d;rw[<-i]at q2 g8 d;rw[bv]at r0;rw[bw]at r1;obtain⟨T0,b3,gj,gz⟩:=Bh (P:=ZI) S ⟨#[101,100,103,101,32]⟩ (by have:=(show(⟨#[101,100,103,101,32]⟩:ByteArray).size=5 from rfl);omega);rw[(show(⟨#[101,100,103,101,32]⟩:ByteArray).size=5 from rfl)]at gj;obtain⟨T1,b4,ih,g0⟩:=Bh (P:=ZI) T0 s1 (by omega);obtain⟨T2,b5,gk,g1⟩:=Bh (P:=ZI) T1 ⟨#[32]⟩ (by have:=(show(⟨#[32]⟩:ByteArray).size=1 from rfl);omega);rw[(show(⟨#[32]⟩:ByteArray).size=1 from rfl)]at gk;obtain⟨T3,b6,ii,g2⟩:=Bh (P:=ZI) T2 s2 (by omega);obtain⟨T4,b7,ij,g3⟩:=Bh (P:=ZI) T3 ⟨#[10]⟩ (by have:=(show(⟨#[10]⟩:ByteArray).size=1 from rfl);omega);clear bu b9 hx g i gt gu gv gw bv bw;have g6:Hid (T4.data.toList=l++Ai ((E.edges.take (k+1)).map (Dg E))):=G (by
    rw[b2.out,d.out,<-F6,<-hS.out];rw[b7,b6,b5,b4,b3];simp)
   clear b3 gj b4 ih b5 gk b6 ii b7 ij gy;go_wp2_with fail;go_quiet (fail);go_wp2_with fail;go_roundw;case rel=>exact⟨k+1,T4,by omega,rfl,by go_num,g6,he.keep (Ck _ (Ac.refl (fun _=>False) _)) (fun _ h _=>h.elim)⟩
   case measure=>simp[intOf];omega
  ·have cb:k=E.edges.length:=by omega
   have gm:Hid (S.data.toList=l++Ai (E.edges.map (Dg E))):=G (by rw[hS.out,cb,Zz2]);clear cb;go_wp2_with fail;exact HEXIT _ _ _ _ _ _ _ _ _ _ _ _ _ _ _ _ _ _ _ _ _ _ _ _ _ _ _ _ _ _ _ _ _ _ _ _ gm he.out
def Kg(r:Ap):List Nat:=[r.seq,r.ent,r.kind,r.tick]
def Ne(r:Ap):List ByteArray:=(Kg r).map (fun n:Nat=>B6 (Lib.itoa (n:Int)))
theorem Abs(r:Ap):(Lib.join ((Ne r).map (·.data.toList)) [32])=C5 r:=by
 simp[Ne,Kg,C5,Cw]
def Zw(r:Ap):Prop:=∀n∈Kg r,n<=9223372036854775807
theorem Kv.td{r:Ap}(h:Kv r):Zw r:=by
 intro n a;have:=h.s2;have:=h.e;have:=h.k;have:=h.t;simp[Kg]at a;omega
theorem Km{n:Nat}(h:n<=9223372036854775807):(Lib.itoa (n:Int)).length<=21:=Lib.itoa_length_le n (by omega) (by omega)
theorem kX{r:Ap}(h:Zw r):(C5 r).length<=87:=by
 unfold C5;rw[Lib.join_length];have a:=Km (h r.seq (by simp[Kg]));have b:=Km (h r.ent (by simp[Kg]));have c:=Km (h r.kind (by simp[Kg]));have d:=Km (h r.tick (by simp[Kg]));simp[Lib.lens];omega
theorem Ail(r:Ap)(i:Nat)(h:i<4):(Ne r).take (i+1)=(Ne r).take i++ [B6 (Lib.itoa (((Kg r).getD i 0:Nat):Int))]:=by
 have a:i<(Kg r).length:=h;rw[If (by unfold Ne;rw[Fn];exact a)];unfold Ne;rw[List.getElem_map,Of,R4 a];rfl
theorem Aim{r:Ap}(h:Zw r)(i:Nat)(hi:i<4):(Kg r).getD i 0<=9223372036854775807:=by
 match i,hi with
 |0,_=>exact h _ (by simp[Kg])
 |1,_=>exact h _ (by simp[Kg])
 |2,_=>exact h _ (by simp[Kg])
 |3,_=>exact h _ (by simp[Kg])
structure P8 (w:V) (p:Nat) (r:Ap) (i:Nat) (v:ZE) (wr:V):Prop where
 own:wr.ownsRow (p+1) 9 1 v i (Aj ((Ne r).take i))
 ns:∀k,k<4->wr.cell? ⟨p,k,O⟩=U (I J (((Kg r).getD k 0:Nat):Int))
 bel:ZF w.heap.size w wr
 lo:w.heap.size<=p
 hi:p<wr.heap.size
theorem Tq(l:List ByteArray)(x:ByteArray):Aj (l++ [x])=Aj l++Aj [x]:=by simp[Aj]
theorem P8.below{w wr w':V}{p i:Nat}{r:Ap}{v:ZE}(h:P8 w p r i v wr)(b:ZF wr.heap.size wr w'):P8 w p r i v w':=
 ⟨Ff h.own (Al b) (fun _ _ _ h=>h),fun k a=>by rw[b.cell (p:=⟨p,k,O⟩) h.hi];exact h.ns k a,h.bel.trans (b.mono h.bel.size),h.lo,F5 h.hi b.size⟩
theorem P8.next{w wz W w':V}{p i:Nat}{r:Ap}{v v':ZE}(h:P8 w p r i v wz)(hi:i<4)(a:ZF wz.heap.size wz W)(l:w'.ownsRow (p+1) 9 1 v' (i+1) (Aj ((Ne r).take i)++Aj [B6 (Lib.itoa (((Kg r).getD i 0:Nat):Int))]))(f:W.grownBy w' v.ownBlock):P8 w p r (i+1) v' w':=by
 have h2:=h.below a;have d:Ac (fun b=>U b=v.ownBlock) W w':=Ac.of_grown f;have e:=fun b (a:U b=v.ownBlock)=>(h2.own.lt b a.symm).1;refine⟨by rw[Ail r i hi,Tq];exact l,fun k j=>?_,h2.bel.trans (d.below h2.bel.size (fun b a=>by have:=e b a;have:=h2.lo;omega)),h2.lo,F5 h2.hi d.size⟩;rw[d.cell (p:=⟨p,k,O⟩) h2.hi (fun g=>by have:=e p g;omega)];exact h2.ns k j
theorem Xu(B:Nat)(r:Ap)(w:V)(hT:L9 B w)(hB:B<=w.heap.size)(hr:Zw r):
  Calls ZI 137 #[Aq r] w fun e w'=>e=.returned (ZB (B6 (C5 r)))/\ZF w.heap.size w w':=by
 obtain⟨i0,ai,ak,al,am⟩:=info_parts infoStr;have t:ZF w.heap.size w (w.alloc (D7 r)):=(R1 _ _).alloc (Y2 _) _;have o:=Ab w (D7 r);have HT:=G (fun W (hW:ZF w.heap.size w W) i (hi:i<4)=>M4 B (((Kg r).getD i 0:Nat):Int) W (hT.low hW hB) (by omega) (by have:=Aim hr i hi;omega));have q:=G (Abs r);have A:=G (kX hr);clear hT hB hr;unfold D7 at t o;unfold Aq;go_enter func137,ntmps137;go_upto_region 2 with fail;generalize w.alloc _=w1 at t o ⊢;obtain⟨c0,c1,c2,c3⟩:=Ay o;have u:w.heap.size<w1.heap.size:=Aa o;have f:Hid (P8 w w1.heap.size r 0 (F O 0 0) (w1.alloc (.cells #[I J r.seq,I J r.ent,I J r.kind,I J r.tick] 3))):=G (by
  have D:=Ab w1 (.cells #[I J r.seq,I J r.ent,I J r.kind,I J r.tick] 3);obtain⟨d0,d1,d2,d3⟩:=Ay D;refine⟨Zzr _ _ _ _,fun k hk=>?_,t.alloc (Zyi u) _,Zyi u,Aa D⟩;match k,hk with
  |0,_=>exact d0
  |1,_=>exact d1
  |2,_=>exact d2
  |3,_=>exact d3)
 have HZ:=G u;clear t o u;go_wp2_with fail;generalize hp:w1.heap.size=p at f HZ ⊢;clear hp;go_loopw [3,16] (fun s3 K wr=>∃(i:Nat) (L:Option Addr) (v:Nat),i<=4/\s3=F L i v/\K=I J i/\Hid (P8 w p r i (F L i v) wr)) (fun _ K _=>4-(intOf K).toNat);case atStart=>exact⟨0,O,0,by omega,rfl,rfl,f⟩
 case round=>
  obtain⟨i,L,v,hi,rfl,rfl,a⟩:=hrel;clear f c0 c1 c2 c3;by_cases E:i<4
  ·have aw:(i:Int)<4:=by omega
   have hc:=a.ns i E;have X:=G (HT wr a.bel i E);have s:=G (fun d W w' v' (g:ZF wr.heap.size wr d) hb R D=>(a.below g).next (W:=W) (w':=w') (v':=v') E hb R D);have HLay:=G (fun d (g:ZF wr.heap.size wr d) (x:Obj)=>And.intro ((a.below g).own.alloc x) (show p+1<=(d.alloc x).heap.size by rw[H7];have:=(a.below g).hi;omega));obtain⟨N,hN⟩:∃N,N=(Kg r).getD i 0:=⟨_,rfl⟩
   rw[<-hN]at hc X s;obtain⟨S,hS⟩:∃S:ByteArray,S=B6 (Lib.itoa (N:Int)):=⟨_,rfl⟩
   have Y:Hid (Calls ZI 100 #[I J N] wr fun e w'=>e=.returned (ZB S)/\ZF wr.heap.size wr w'):=G (by rw[hS];exact X.out);rw[<-hS]at s;obtain⟨cs,C⟩:∃cs,cs=Aj ((Ne r).take i):=⟨_,rfl⟩
   rw[<-C]at s;have HLay2:Hid (∀d (g:ZF wr.heap.size wr d) (x:Obj),(d.alloc x).ownsRow (p+1) 9 1 (F L i v) i cs/\p+1<=(d.alloc x).heap.size):=G (by rw[C];exact HLay.out);have ac:Hid (i+1<=maxLen):=G (by unfold maxLen;omega);have ae:Hid ((i+1)*16<=140737488355328):=G (by omega);clear a X HLay hN hS C HT q A;go_wp2_with fail;refine Y.mono ?_;rintro e d ⟨rfl,g⟩;have y:=G g;clear g hc;go_wp2_with (at_builtin;go_must (refine Bc rfl (.tmp 20) (.tmp 23) 22 rfl (p+1) 9 i0 _ 1 16 underlying22 ai ak al am rfl (by decide) _ i _ rfl (HLay2 d y _).1 ⟨d.heap.size,0,O⟩ 1 1 (Aj [S]) rfl rfl (A1 _ (Aj [S]) _) (Ph _) ac ae (HLay2 d y _).2 ?_;intro a2 k2 w4 R D;have nx:=G (s d _ w4 _ y ((R1 _ _).alloc (Y2 _) _) R D);clear R D));go_roundw;case rel=>exact⟨i+1,a2,k2,by omega,rfl,by go_num,nx⟩
   case measure=>simp[intOf];omega
  ·obtain rfl:i=4:=by omega
   have H:=Ge a.own;have Q:Av (fun b=>p+1<=b) wr (F L 4 v) 1 (Aj (Ne r)) (Ne r).length:=H;obtain⟨hl4,ao,cap,hv,P,af,ag,ah⟩:=Q;injection hv with e1 e2 e3;subst e1;subst e3;obtain⟨b,off,rfl,hR,M,m⟩:=E8 (ao:=L) (n:=4) (cap:=v) (l:=Ne r) H (by show 0<4;decide);have HJ:=Tryz.strings_Join b off v (Ne r) ⟨#[32]⟩ wr (fun j x hx=>by
    obtain⟨hj,rfl⟩:=List.getElem?_eq_some_iff.1 hx;exact m j hj) M (by show 4<=_;decide) P (by
    show(Lib.join ((Ne r).map (·.data.toList)) [32]).length<=_
    rw[q.out];have:=A.out;omega)
   have Z:Hid (Calls ZI 139 #[F (U ⟨b,off,O⟩) 4 v,ZB ⟨#[32]⟩] wr fun e w'=>e=.returned (ZB (B6 (C5 r)))/\ZF wr.heap.size wr w'):=G (by
    rw[<-q.out];exact HJ)
   have HB:=G a.bel;clear HJ a H hl4 P af ag ah m M hR q A HT;go_wp2_with fail;refine Z.mono ?_;rintro e d ⟨rfl,g⟩;have T:=G (HB.trans (g.mono HB.size));clear g;go_wp2_with fail;go_ret;exact⟨rfl,T.out⟩
