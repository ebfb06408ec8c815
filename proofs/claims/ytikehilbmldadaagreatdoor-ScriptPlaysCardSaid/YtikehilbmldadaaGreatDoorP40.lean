import Derived.Test.YtikehilbmldadaaGreatDoorP32
import Derived.Deep.CutBlock
import Derived.Test.YtikehilbmldadaaGreatDoorP21
import Derived.Lib.Join
import Derived.Test.YtikehilbmldadaaGreatDoorP45
set_option maxHeartbeats 4000000
set_option maxRecDepth 100000
set_option linter.unusedVariables false
namespace Go.Proofs.YtikehilbmldadaaGreatDoor
open Proofs.Tryz YtikehilbmldadaaGreatDoor.Tryz RowKit
open Go renaming World->V,Value->ZE,Calls->ZH,Value.int->I,IntKind.i64->J,Value.slice->F,Value.pointer->ZA,Value.string->ZB,Ending.returned->ZD,Proofs.Tryz.prog->ZI
open Option renaming some->U,none->O
section
variable {P:Program} {ops:Array Oper} {Q:Exit->Act->V->Prop} {md:Region.Mode} {S:V->Prop}
theorem Dz{i:Nat}{d:Option Tmp}{op:Op}{t:TypeId}{p:String}{af:Array Edge}{g:Option (Nat × Bool)}{v:ZE}{f:Nat}{e:Array Bool}{a:Act}{w:V}(hi:ops[i]? =U { dst:=d,op:=op,type:=t,pos:=p,after:=af,guard:=g})
  (o:Region.noSelect ops=true) (m:Region.free md ops e i=true) (n:(Region.ready md ops e).contains i=true)
  (j:∀c a w,Q (.panic c) (a.put d v) w->Q (.panic c) a w) (q:YieldsIf P ops S { dst:=d,op:=op,type:=t,pos:=p,after:=af,guard:=g} v a) (l:S w)
  (h:wpAnyH P md ops Q S f (e.setIfInBounds i true) (a.put d v) w):wpAnyH P md ops Q S (f+1) e a w:=
 wpAnyH_take hi o m n j q l h
end
def Rg(n:Nat):Code->List Code
 |.block m c=>if m=n then [.block m c] else Rg n c
 |.seq a b=>Rg n a++Rg n b
 |.loop c=>Rg n c
 |.scope c=>Rg n c
 |.cond _ a b=>Rg n a++Rg n b
 |_=>[]
noncomputable def qN (n:Nat):Code:=((f33.body.map (Rg n)).getD []).getD 0 .skip
theorem Bh{P:Program}(A B:ByteArray)(h:A.size+B.size<=9223372036854775807):∃C:ByteArray,C.data.toList=A.data.toList++B.data.toList/\C.size=A.size+B.size/\∀w:V,(Op.stringOp .add A B).run P w=.ok (ZB C) w:=
 ⟨A++B,by rw[Zzy,Zzq],Zzn,fun w=>run_string_add_sum w A B h⟩
theorem Mx{α:Type}(f:α->List W1)(L:List α)(k:Nat)(a:k<L.length):Ai ((L.take (k+1)).map f)=Ai ((L.take k).map f)++Br (f L[k]):=by
 rw[If a,B0,Cj,Zzb,Dv]
theorem Oh{α:Type}(f:α->List W1)(L:List α)(k n:Nat)(e:L.length<=n)(h:∀x∈L,Hu (f x)):(Ai ((L.take k).map f)).length<=206*n:=by
 have h1:=D1 (L:=(L.take k).map f) (fun g a=>by
  obtain⟨x,d,rfl⟩:=List.mem_map.1 a;exact h x (List.mem_of_mem_take d))
 rw[Fn,By]at h1;have h2:min k L.length<=n:=by omega
 have h3:=Nat.mul_le_mul_left 206 h2;omega
theorem dsize(s:ByteArray):s.size=s.data.toList.length:=by rw[C2];rfl
theorem Ng{E:Ak}{k:Int}{j:Nat}(d:k=j)(a:j<E.points.length):A9 E k=E.points[j]:=by
 unfold A9;rw[d,Zzc,Of,R4 a];rfl
theorem Ai8(s:ByteArray):Br (Gt s)= [112,111,105,110,116,32]++s.data.toList++ [10]:=by simp[Br,upB,Np,Ch,Gt,Abz,Zz4]
theorem Aje(E:Ak)(x:Int × Int):Br (Dg E x)= [101,100,103,101,32]++(A9 E x.1).data.toList++ [32]++(A9 E x.2).data.toList++ [10]:=by simp[Br,upB,Np,Ch,Dg,Xd,Zz4]
theorem Ajb(E:Ak)(k:Int):Br (D0 E k)= [102,105,114,115,116,32]++(A9 E k).data.toList++ [10]:=by simp[Br,upB,Np,Ch,D0,gX,Zz4]
theorem Ai9(E:Ak)(k:Int):Br (D3 E k)= [108,97,115,116,32]++(A9 E k).data.toList++ [10]:=by simp[Br,upB,Np,Ch,D3,gN,Zz4]
theorem Aja(E:Ak)(g:Ix):Br (Dj E g)= [103,97,112,32]++(A9 E g.fr).data.toList++ [32]++(A9 E g.dst).data.toList++ [32]++Lib.itoa g.mn++ [32]++Lib.itoa g.mx++ [10]:=by simp[Br,upB,Np,Ch,Dj,Xc,Zz4]
theorem Ag6{R:Nat->Prop}{w:V}{ao:Option Addr}{n cap:Nat}{l:List Ix}(h:Av R w (F ao n cap) 4 (l.flatMap Cu) l.length)(h0:0<l.length):
  ∃b off,ao=U ⟨b,off,O⟩/\R b/\b<w.heap.size/\∀k (hk:k<l.length),w.cell? ⟨b,off+k*4,O⟩=U (I J l[k].fr)/\w.cell? ⟨b,off+k*4+1,O⟩=U (I J l[k].dst)/\w.cell? ⟨b,off+k*4+2,O⟩=U (I J l[k].mn)/\w.cell? ⟨b,off+k*4+3,O⟩=U (I J l[k].mx):=by
 obtain⟨b,off,e,d,f,a⟩:=h.elem (fun _=>rfl) (by decide) h0;exact⟨b,off,e,d,f,fun k hk=>⟨a k hk 0 _ rfl,a k hk 1 _ rfl,a k hk 2 _ rfl,a k hk 3 _ rfl⟩⟩
theorem Kn(n:Int)(h0:0<=n)(h1:n<=1099511627776):(Lib.itoa n).length<=40:=pO n ⟨by omega,by omega⟩
theorem Anz(w0 cx:V)(R:Nat->Prop)(E:Ak)(pa ga ea fa la:Option Addr)(pc gc ec fc lc eb:Nat)(HG:Hid (Ed E))(f1:Hid (EB w0 R E (F pa E.points.length pc) (F ga E.gaps.length gc) (F ea E.edges.length ec) (F fa E.first.length fc) (F la E.last.length lc) eb cx))(S0:ByteArray)(l:List UInt8)(hl:Hid (S0.data.toList=l))(d:l.length<=900000)(Q0:Exit->Act->V->Prop)(x0 x1 x2 x4 x7 x8 x9 cy cz da db dc dd de df dg dh di dj dk dl dm dn dp dq dr ds dt du dv dw dx dy dz d3 d4 d5 d6 d7 d8 d9 ed ee ef eg eh ei ej ek el em en f9 gb gd ge gf gg gh gi gj gk gl gm gn gp gq gr eo ep er es et eu ev ew ex ey ez e0 e1 e2 e3 e4 e5 e6 e7 e8 e9 fb fd fe ff fg fh fi fj e f g i j m n o t u v y A B C D H K L M N T X Y Z aa ab ac ad ae af ag ah ai aj ak al am an ao ap aq ar au av aw ax ay az a0 a1 a2 a3 a4 a5 a6 a7 a8 a9 ba bb bc bd bf bg bh bi bj bk bl bm bn bo bp bq br bs bt bu bv bw bx bz b0 b1 b2 b3 b4 b5 b6 b7 b8 b9 ca cb cc cd ce cf cg ch ci cj ck cl cm cn co:ZE)
  (a:∀(y6 y55 y56 y57 y58 y59 y60 y61 y62 y63 y64 y65 y66 y67 y68 y69 y70:ZE) (S1:ByteArray) (w':V),S1.data.toList=l++Ai (E.points.map Gt)->EB w0 R E (F pa E.points.length pc) (F ga E.gaps.length gc) (F ea E.edges.length ec) (F fa E.first.length fc) (F la E.last.length lc) eb w'->Q0 .normal ⟨(List.toArray (x0::x1::x2::(ZB S1)::x4::(ZA (U ⟨eb,0,O⟩))::y6::x7::x8::x9::cy::cz::da::db::dc::dd::de::df::dg::dh::di::dj::dk::dl::dm::dn::dp::dq::dr::ds::dt::du::dv::dw::dx::dy::dz::d3::d4::d5::d6::d7::d8::d9::ed::ee::ef::eg::eh::ei::ej::ek::el::em::en::y55::y56::y57::y58::y59::y60::y61::y62::y63::y64::y65::y66::y67::y68::y69::y70::eo::ep::er::es::et::eu::ev::ew::ex::ey::ez::e0::e1::e2::e3::e4::e5::e6::e7::e8::e9::fb::fd::fe::ff::fg::fh::fi::fj::e::f::g::i::j::m::n::o::t::u::v::y::A::B::C::D::H::K::L::M::N::T::X::Y::Z::aa::ab::ac::ad::ae::af::ag::ah::ai::aj::ak::al::am::an::ao::ap::aq::ar::au::av::aw::ax::ay::az::a0::a1::a2::a3::a4::a5::a6::a7::a8::a9::ba::bb::bc::bd::bf::bg::bh::bi::bj::bk::bl::bm::bn::bo::bp::bq::br::bs::bt::bu::bv::bw::bx::bz::b0::b1::b2::b3::b4::b5::b6::b7::b8::b9::ca::cb::cc::cd::ce::cf::cg::ch::ci::cj::ck::cl::cm::cn::co:: [])),[]⟩ w'):
  Code.wp ZI (qN 2) Q0 ⟨(List.toArray (x0::x1::x2::(ZB S0)::x4::(ZA (U ⟨eb,0,O⟩))::(I J 0)::x7::x8::x9::cy::cz::da::db::dc::dd::de::df::dg::dh::di::dj::dk::dl::dm::dn::dp::dq::dr::ds::dt::du::dv::dw::dx::dy::dz::d3::d4::d5::d6::d7::d8::d9::ed::ee::ef::eg::eh::ei::ej::ek::el::em::en::f9::gb::gd::ge::gf::gg::gh::gi::gj::gk::gl::gm::gn::gp::gq::gr::eo::ep::er::es::et::eu::ev::ew::ex::ey::ez::e0::e1::e2::e3::e4::e5::e6::e7::e8::e9::fb::fd::fe::ff::fg::fh::fi::fj::e::f::g::i::j::m::n::o::t::u::v::y::A::B::C::D::H::K::L::M::N::T::X::Y::Z::aa::ab::ac::ad::ae::af::ag::ah::ai::aj::ak::al::am::an::ao::ap::aq::ar::au::av::aw::ax::ay::az::a0::a1::a2::a3::a4::a5::a6::a7::a8::a9::ba::bb::bc::bd::bf::bg::bh::bi::bj::bk::bl::bm::bn::bo::bp::bq::br::bs::bt::bu::bv::bw::bx::bz::b0::b1::b2::b3::b4::b5::b6::b7::b8::b9::ca::cb::cc::cd::ce::cf::cg::ch::ci::cj::ck::cl::cm::cn::co:: [])),[]⟩ cx:=by
 have HEXIT:=G a;have HLen:=G d;clear a d;conv=>arg 2;whnf
 go_wp2_with fail;go_loopw [3,6] (fun s3 s6 wr=>∃(k:Nat) (S:ByteArray),k<=E.points.length/\s3=ZB S/\s6=I J k/\Hid (S.data.toList=l++Ai ((E.points.take k).map Gt))/\Hid (EB w0 R E (F pa E.points.length pc) (F ga E.gaps.length gc) (F ea E.edges.length ec) (F fa E.first.length fc) (F la E.last.length lc) eb wr)) (fun _ s6 _=>E.points.length-(intOf s6).toNat);case atStart=>exact⟨0,S0,In _,rfl,rfl,(show S0.data.toList=l++Ai ((E.points.take 0).map Gt)from by rw[hl.out];simp[Ai]),f1⟩
 case round=>
  obtain⟨k,S,hk,rfl,rfl,hS,he⟩:=hrel;obtain⟨c0,c1,c2,c3,c4,c5,c6,c7,c8,c9⟩:=he.cells;have f2:=HG.pl;by_cases cp:k<E.points.length
  ·have fx:S.size<=903296+206*64:=by
    have h1:=Oh Gt E.points k 16 f2 (fun x hx=>Rq HG hx);have h2:=HLen.out;rw[dsize,hS.out,R2];omega
   have cq:=G (Mx Gt E.points k cp);obtain⟨pb,po,rfl,g6,g8,cv⟩:=E8 he.sl.p (by omega);have q:=cv k cp;have f4:=HG.ps _ (M2 cp);obtain⟨s,hs⟩:∃s,s=E.points[k]:=⟨_,rfl⟩
   rw[<-hs]at q f4 cq;obtain⟨T0,cr,fk,fy⟩:=Bh (P:=ZI) S ⟨#[112,111,105,110,116,32]⟩ (by have:=(show(⟨#[112,111,105,110,116,32]⟩:ByteArray).size=6 from rfl);omega);rw[(show(⟨#[112,111,105,110,116,32]⟩:ByteArray).size=6 from rfl)]at fk;obtain⟨T1,cs,gs,fz⟩:=Bh (P:=ZI) T0 s (by omega);obtain⟨T2,ct,gt,f0⟩:=Bh (P:=ZI) T1 ⟨#[10]⟩ (by have:=(show(⟨#[10]⟩:ByteArray).size=1 from rfl);omega);clear cv hs;have f3:Hid (T2.data.toList=l++Ai ((E.points.take (k+1)).map Gt)):=G (by
    rw[cq.out,Ai8,<-F6,<-hS.out];rw[ct,cs,cr];simp)
   clear cr fk cs gs ct gt fx;go_wp2_with fail;go_roundw;case rel=>exact⟨k+1,T2,by omega,rfl,by go_num,f3,he⟩
   case measure=>simp[intOf];omega
  ·have cw:k=E.points.length:=by omega
   have fo:Hid (S.data.toList=l++Ai (E.points.map Gt)):=G (by rw[hS.out,cw,Zz2]);clear cw;go_wp2_with fail;exact HEXIT _ _ _ _ _ _ _ _ _ _ _ _ _ _ _ _ _ _ _ fo he.out
def Gu(s:ByteArray):Option Nat:=
 match Lib.atoiAll s.data.toList with
 |.ok v=>if s.size<=5/\0<=v/\Lib.itoa v=s.data.toList then U v.toNat else O
 |_=>O
def Ej:List (ByteArray × Nat):=[(⟨#[98,101,103,105,110]⟩,1),(⟨#[115,116,111,112]⟩,1),(⟨#[114,101,112,111,114,116]⟩,2),(⟨#[116,105,99,107]⟩,1),(⟨#[99,117,116]⟩,1),(⟨#[98,111,111,116]⟩,0),(⟨#[115,116,97,116,117,115]⟩,1),
 (⟨#[110,111,119]⟩,0),(⟨#[107,105,99,107,115]⟩,0),(⟨#[116,111,116,97,108]⟩,0),(⟨#[115,116,97,116,101]⟩,0),(⟨#[99,97,117,115,101]⟩,0),(⟨#[108,111,103]⟩,0),(⟨#[99,111,110,102,105,103]⟩,0)]
def C8(s:ByteArray):Option Nat:=Ej.findIdx? (fun p=>p.1.data.toList==s.data.toList)
def Ee(i:Nat):Nat:=(Ej.getD i (ByteArray.empty,0)).2
def Fw(i:Nat):Nat->List ByteArray->Option (List Nat)
 |_,[]=>U []
 |j,s::r=>match Gu s with
  |none=>O
  |some k=>if j=0/\i≠3/\i≠4/\9<k then O else match Fw i (j+1) r with
   |none=>O
   |some l=>U (k::l)
def okS:ByteArray:=⟨#[111,107]⟩
def Em:ByteArray:=⟨#[110,111,116,104,105,110,103]⟩
def C5(r:Ap):List UInt8:=Lib.join [Lib.itoa r.seq,Lib.itoa r.ent,Lib.itoa r.kind,Lib.itoa r.tick] [32]
def Sb(L:List Ap):ByteArray:=if L= [] then Em else B6 (Lib.join (L.map C5) [44,32])
def Su(l:List UInt8):List UInt8:=Lib.trimSuffix l [10]
def Mu(l:List UInt8):List UInt8:=l.flatMap (fun c=>if c=10 then [59,32] else [c])
def Nq(txt:ByteArray):ByteArray:=B6 (Mu (Su txt.data.toList))
def Cr(txt:ByteArray)(M:KpM)(i:Nat)(ns:List Nat):Nat × ByteArray × KpM:=
 let n:Int:=ns.getD 0 0
 match i with
 |0=>((Ig M n).1,okS,(Ig M n).2)
 |1=>((Kk M n).1,okS,(Kk M n).2)
 |2=>((Gm M n (ns.getD 1 0)).1,okS,(Gm M n (ns.getD 1 0)).2)
 |3=>((Bi M (ns.getD 0 0)).1,okS,(Bi M (ns.getD 0 0)).2)
 |4=>(kD M.m.off n,okS,{ M with m:=Qn M.m n})
 |5=>((Lx M).1,okS,(Lx M).2)
 |6=>if n<M.A.length then (0,Cs (B9 M n.toNat),M) else (5,ByteArray.empty,M)
 |7=>(0,B6 (Lib.itoa M.D.now),M)
 |8=>(0,B6 (Lib.itoa M.D.kicks),M)
 |9=>(0,M.st.str,M)
 |10=>(0,Me M,M)
 |11=>(0,if M.L= [] then Em else B6 (C5 (Gd M.L)),M)
 |12=>(0,Sb M.L,M)
 |_=>(0,Nq txt,M)
def Jc(line:ByteArray):Option (Nat × List Nat):=match Cx 32 line with
 |[]=>O
 |w::r=>match C8 w with
  |none=>O
  |some i=>if r.length≠Ee i then O else match Fw i 0 r with
   |none=>O
   |some ns=>U (i,ns)
def E9(txt:ByteArray)(M:KpM)(line:ByteArray):Nat × ByteArray × KpM:=match Jc line with
 |none=>(1,ByteArray.empty,M)
 |some (i,ns)=>Cr txt M i ns
def Mc(line:ByteArray):Nat:=match Jc line with
 |some (3,n::_)=>n
 |_=>0
def He(e:Nat):ByteArray:=(⟨#[110,105,103,104,116,119,97,116,99,104,58,32]⟩:ByteArray)++([⟨#[]⟩,⟨#[116,101,120,116]⟩,⟨#[98,111,117,110,100]⟩,⟨#[115,104,97,112,101]⟩,⟨#[110,97,109,101]⟩,⟨#[110,111,110,101]⟩,⟨#[101,120,105,115,116]⟩,⟨#[102,117,108,108]⟩,⟨#[111,102,102]⟩,⟨#[105,100,108,101]⟩,⟨#[104,101,108,100]⟩,⟨#[114,101,115,101,116]⟩]:List ByteArray).getD e ⟨#[]⟩
def Db(txt:ByteArray)(M:KpM)(line:ByteArray):ByteArray × KpM:=(if (E9 txt M line).1=0 then (E9 txt M line).2.1 else He (E9 txt M line).1,(E9 txt M line).2.2)
def Ct(txt:ByteArray):KpM->List ByteArray->List ByteArray × KpM
 |M,[]=>([],M)
 |M,s::r=>((Db txt M s).1::(Ct txt (Db txt M s).2 r).1,(Ct txt (Db txt M s).2 r).2)
theorem kW(txt:ByteArray):∀(l:List ByteArray) (M:KpM),(Ct txt M l).1.length=l.length
 |[],_=>rfl
 |s::r,M=>by simp[Ct,kW txt r]
theorem Pb(txt:ByteArray)(s:ByteArray):∀(l:List ByteArray) (M:KpM),Ct txt M (l++ [s])=((Ct txt M l).1++ [(Db txt (Ct txt M l).2 s).1],(Db txt (Ct txt M l).2 s).2)
 |[],M=>rfl
 |a::r,M=>by simp[Ct,Pb txt s r]
theorem Aej{txt:ByteArray}{M:KpM}{T i:Nat}{ns:List Nat}(h:Bn M T)(a:T+2*(if i=3 then ns.getD 0 0 else 0)<=400000)(d:(ns.getD 0 0:Nat)<=9223372036854775807):Bn (Cr txt M i ns).2.2 (T+2*(if i=3 then ns.getD 0 0 else 0)):=by
 unfold Cr;split<;>simp only[Nat.reduceEqDiff,if_true,if_false,Nat.mul_zero,Zzw]at a ⊢
 ·exact Acn h _
 ·exact Agn h _
 ·exact xN h _ _
 ·exact My h _ a
 ·exact Aj1 h (by omega)
 ·exact Agt h
 ·split<;>exact h
 ·exact h
 ·exact h
 ·exact h
 ·exact h
 ·exact h
 ·exact h
 ·exact h.up (by omega) a
theorem Aa6{k:Nat}(i:k<100000){s:ByteArray}(d:s.data.toList=Lib.itoa (k:Int)):Gu s=U k:=by
 have e:=M9 (u:=k) (k:=5) (by omega) (by omega);have g:s.size<=5:=by
  show s.data.size<=5
  rw[<-C2,d,Ko];exact e
 have f:Lib.atoiAll s.data.toList=.ok (k:Int):=by
  rw[d,Ko,Aak (by omega) (by have:=Mi k;cases h:Lib.decDigits k with|nil=>exact absurd h this|cons a b=>simp) (Jr k),zE]
 unfold Gu;rw[f];simp only;rw[if_pos ⟨g,by omega,d.symm⟩];rfl
def Oi(i:Nat)(ns:List Nat):List UInt8:=Cy 32 ((Ej.getD i (ByteArray.empty,0)).1.data.toList::ns.map (fun k:Nat=>Lib.itoa (k:Int)))
theorem Wd(i:Nat):∀(ns:List Nat) (j:Nat) (r:List ByteArray),r.map (·.data.toList)=ns.map (fun k:Nat=>Lib.itoa (k:Int))->(∀k∈ns,k<100000)->(j=0->i≠3->i≠4->ns.getD 0 0<=9)->Fw i j r=U ns
 |[],j,[],_,_,_=>rfl
 |[],j,a::r,h,_,_=>by simp at h
 |k::ns,j,[],h,_,_=>by simp at h
 |k::ns,j,a::r,h,hk,h9=>by
  simp only[Zz1,List.cons.injEq]at h
  unfold Fw
  rw[Aa6 (hk k (by simp)) h.1]
  simp only
  rw[if_neg (fun hh=>by have:=h9 hh.1 hh.2.1 hh.2.2.1;simp at this;omega),Wd i ns (j+1) r h.2 (fun q hq=>hk q (by simp[hq])) (fun h0=>by omega)]
theorem Ahv{a b:ByteArray}(h:a.data.toList=b.data.toList):a=b:=by
 cases a;cases b;exact congrArg ByteArray.mk (Array.toList_inj.1 h)
theorem Acs(k:Nat):(32:UInt8)∉Lib.itoa (k:Int):=by
 rw[Ko];intro h;have:=Jr k _ h;exact absurd this (by decide)
theorem Mq{i:Nat}{ns:List Nat}(hi:i<14)(o:ns.length=Ee i)(l:∀k∈ns,k<100000)(j:i≠3->i≠4->ns.getD 0 0<=9){s:ByteArray}(m:s.data.toList=Oi i ns):Jc s=U (i,ns):=by
 have n:∀i:Fin 14,(32:UInt8)∉(Ej.getD i.1 (ByteArray.empty,0)).1.data.toList/\C8 (Ej.getD i.1 (ByteArray.empty,0)).1=U i.1:=by decide
 obtain⟨e,f⟩:=n ⟨i,hi⟩;have a:=J0 32 s;rw[m,Oi,Rw 32 _ (by simp) (fun p d=>by
  rcases List.mem_cons.1 d with rfl|d
  ·exact e
  ·obtain⟨k,_,rfl⟩:=List.mem_map.1 d;exact Acs k)]at a
 unfold Jc;cases d:Cx 32 s with
 |nil=>rw[d]at a;simp at a
 |cons w r=>
  rw[d]at a;simp only[Zz1,List.cons.injEq]at a;have g:C8 w=U i:=by
   rw[<-f];congr 1;exact Ahv a.1
  simp only[g];have q:r.length=ns.length:=by have:=congrArg List.length a.2;simpa using this
  rw[if_neg (by omega),Wd i ns 0 r a.2 l (fun _=>j)]
theorem I0{s:ByteArray}{i:Nat}{ns:List Nat}(h:Jc s=U (i,ns)):Mc s=if i=3 then ns.getD 0 0 else 0:=by
 unfold Mc;rw[h];by_cases h3:i=3
 ·subst h3;cases ns<;>rfl
 ·rw[if_neg h3];split
  ·rename_i hh;obtain⟨rfl,_⟩:=Prod.mk.inj (Option.some.inj hh);exact absurd rfl h3
  ·rfl
theorem zU(c:UInt8):∀l,∃r,Lz c l=l.takeWhile (fun x=>x != c)::r
 |[]=>⟨[],rfl⟩
 |x::l=>by
  obtain⟨r,hr⟩:=zU c l
  rw[zV]
  by_cases h:x=c
  ·rw[if_pos h]
   exact⟨_,by rw[List.takeWhile_cons_of_neg (by simp[h])]⟩
  ·rw[if_neg h,hr]
   exact⟨r,by rw[List.takeWhile_cons_of_pos (by simp[h])]⟩
theorem wP(s:ByteArray):∃w r,Cx 32 s=w::r/\w.data.toList=s.data.toList.takeWhile (fun x=>x != 32):=by
 obtain⟨r,e⟩:=zU 32 s.data.toList;have a:=J0 32 s;rw[e]at a;cases d:Cx 32 s with
 |nil=>rw[d]at a;simp at a
 |cons w q=>
  rw[d]at a;simp only[Zz1,List.cons.injEq]at a;exact⟨w,q,rfl,a.1⟩
theorem Aia{s:ByteArray}{k:Nat}(h:Gu s=U k):k<=9223372036854775807:=by
 unfold Gu at h;split at h
 ·rename_i v hv;have:=Lib.atoiAll_bounds hv;split at h
  ·have:=Option.some.inj h;omega
  ·cases h
 ·cases h
theorem pB(i:Nat):∀(r:List ByteArray) (j:Nat) (l:List Nat),Fw i j r=U l->∀k∈l,k<=9223372036854775807
 |[],j,l,h,k,hk=>by obtain rfl:=Option.some.inj h;simp at hk
 |s::r,j,l,h,k,hk=>by
  unfold Fw at h
  split at h
  ·cases h
  ·rename_i q hq
   split at h
   ·cases h
   ·split at h
    ·cases h
    ·rename_i l' hl'
     obtain rfl:=Option.some.inj h
     rcases List.mem_cons.1 hk with rfl|hk
     ·exact Aia hq
     ·exact pB i r (j+1) l' hl' k hk
theorem Aib{line:ByteArray}{i:Nat}{ns:List Nat}(h:Jc line=U (i,ns)):∀k∈ns,k<=9223372036854775807:=by
 unfold Jc at h;split at h
 ·cases h
 ·split at h
  ·cases h
  ·split at h
   ·cases h
   ·split at h
    ·cases h
    ·rename_i hns;obtain⟨rfl,rfl⟩:=Prod.mk.inj (Option.some.inj h);exact pB _ _ _ _ hns
theorem Al0{ns:List Nat}(h:∀k∈ns,k<=9223372036854775807)(j:Nat):ns.getD j 0<=9223372036854775807:=by
 rw[Of];cases a:ns[j]? with
 |none=>simp
 |some k=>exact h k (At a)
theorem Afl{txt s:ByteArray}{M:KpM}{T:Nat}(h:Bn M T)(a:T+2*Mc s<=400000):Bn (Db txt M s).2 (T+2*Mc s):=by
 show Bn (E9 txt M s).2.2 _
 unfold E9;cases d:Jc s with
 |none=>exact h.up (by omega) a
 |some p=>
  obtain⟨i,ns⟩:=p;rw[I0 d]at a ⊢;exact Aej h a (Al0 (Aib d) 0)
def Hn(l:List ByteArray):Nat:=(l.map Mc).sum
theorem Sv(l:List ByteArray)(s:ByteArray):Hn (l++ [s])=Hn l+Mc s:=by simp[Hn]
def pA(i:Nat)(r:List ByteArray)(k:Nat)(ns:List Nat):Prop:=ns.length=k/\Fw i 0 r=(Fw i k (r.drop k)).map (ns++ ·)
theorem Aa3(i:Nat)(r:List ByteArray):pA i r 0 []:=⟨rfl,by cases h:Fw i 0 r<;>simp[h]⟩
theorem We{i k:Nat}{r:List ByteArray}(a:k<r.length):Fw i k (r.drop k)=match Gu r[k] with
  |none=>O
  |some n=>if k=0/\i≠3/\i≠4/\9<n then O else match Fw i (k+1) (r.drop (k+1))with
   |none=>O
   |some l=>U (n::l):=by
 rw[Zy3 a];rfl
theorem Aa4{i k n:Nat}{r:List ByteArray}{ns:List Nat}(h:pA i r k ns)(d:k<r.length)(e:Gu r[k]=U n)(a:¬(k=0/\i≠3/\i≠4/\9<n)):pA i r (k+1) (ns++ [n]):=by
 refine⟨by simp[h.1],?_⟩;rw[h.2,We d,e];simp only;rw[if_neg a];cases Fw i (k+1) (r.drop (k+1))<;>simp
theorem kZ{i k:Nat}{r:List ByteArray}{ns:List Nat}(h:pA i r k ns)(e:k<r.length)(a:Gu r[k]=O\/∃n,Gu r[k]=U n/\(k=0/\i≠3/\i≠4/\9<n)):Fw i 0 r=O:=by
 rw[h.2,We e];rcases a with a|⟨n,a,d⟩
 ·rw[a];rfl
 ·rw[a];simp only;rw[if_pos d];rfl
theorem kY{i:Nat}{r:List ByteArray}{ns:List Nat}(h:pA i r r.length ns):Fw i 0 r=U ns:=by
 rw[h.2,List.drop_length];simp[Fw]
theorem vR{txt:ByteArray}{M:KpM}{line w:ByteArray}{r:List ByteArray}(h:Cx 32 line=w::r)(a:C8 w=O):E9 txt M line=(1,ByteArray.empty,M):=by
 unfold E9 Jc;rw[h];simp only[a]
theorem vS{txt:ByteArray}{M:KpM}{line w:ByteArray}{r:List ByteArray}{i:Nat}(h:Cx 32 line=w::r)(d:C8 w=U i)(a:r.length≠Ee i):E9 txt M line=(1,ByteArray.empty,M):=by
 unfold E9 Jc;rw[h];simp only[d];rw[if_pos a]
theorem Aa5{txt:ByteArray}{M:KpM}{line w:ByteArray}{r:List ByteArray}{i:Nat}(h:Cx 32 line=w::r)(d:C8 w=U i)(a:Fw i 0 r=O):E9 txt M line=(1,ByteArray.empty,M):=by
 unfold E9 Jc;rw[h];simp only[d,a,ite_self]
theorem Xy{line w:ByteArray}{r:List ByteArray}{i:Nat}{ns:List Nat}(h:Cx 32 line=w::r)(f:C8 w=U i)(d:r.length=Ee i)(e:Fw i 0 r=U ns):Jc line=U (i,ns):=by
 unfold Jc;rw[h];simp only[f];rw[if_neg (fun a=>a d),e]
theorem vT{txt:ByteArray}{M:KpM}{line w:ByteArray}{r:List ByteArray}{i:Nat}{ns:List Nat}(h:Cx 32 line=w::r)(e:C8 w=U i)(a:r.length=Ee i)(d:Fw i 0 r=U ns):E9 txt M line=Cr txt M i ns:=by
 unfold E9;rw[Xy h e a d]
def An5:List Nat:=[118,120,121,122,124,126,128]
def Wv(i:Nat):Nat:=if i<7 then An5.getD i 0 else 189
def Tm(b:Nat->Nat)(i:Nat):Array ZE:=if i<7 then #[] else #[ZA (U ⟨b (i-7),0,O⟩)]
theorem Zn(b:Nat->Nat):(Nk b).map (·.1)=Ej.map (·.1):=rfl
theorem Ww(b:Nat->Nat):((Nk b).map (·.1)).Nodup:=by
 rw[Zn];decide
theorem Aky(b:Nat->Nat)(i:Nat)(hi:i<14):(Nk b)[i]? =U ((Ej.getD i (ByteArray.empty,0)).1,Js (Ee i) (.func (.func (Wv i)) #[] (Tm b i))):=by
 match i,hi with
 |0,_=>rfl
 |1,_=>rfl
 |2,_=>rfl
 |3,_=>rfl
 |4,_=>rfl
 |5,_=>rfl
 |6,_=>rfl
 |7,_=>rfl
 |8,_=>rfl
 |9,_=>rfl
 |10,_=>rfl
 |11,_=>rfl
 |12,_=>rfl
 |13,_=>rfl
theorem Adc{L:List (ByteArray × ZE)}{s:ByteArray}(h:L.findIdx? (fun p=>p.1.data.toList==s.data.toList)=O):Qe L s=O:=by
 unfold Qe;rw[Zze]at h;rw[List.find?_eq_none.2 (fun x a=>by rw[h x a];decide)];rfl
theorem Adb{L:List (ByteArray × ZE)}{s k:ByteArray}{v:ZE}{i:Nat}(h:L.findIdx? (fun p=>p.1.data.toList==s.data.toList)=U i)(hi:L[i]? =U (k,v)):Qe L s=U v:=by
 unfold Qe;rw[Zzi]at h;obtain⟨a,h1,h2⟩:=h;have:L.find? (fun p=>p.1.data.toList==s.data.toList)=U L[i]:=by
  rw[List.find?_eq_some_iff_getElem];exact⟨h1,i,a,rfl,fun j d=>by have:=h2 j d;simpa using this⟩
 rw[this];rw[R4 a]at hi;rw[Option.some.inj hi];rfl
theorem qO(b:Nat->Nat)(s:ByteArray):(Nk b).findIdx? (fun p=>p.1.data.toList==s.data.toList)=C8 s:=by
 have e:Ej.findIdx? (fun p=>p.1.data.toList==s.data.toList)=(Ej.map (·.1)).findIdx? (fun p=>p.data.toList==s.data.toList):=by rw[List.findIdx?_map];rfl
 have a:(Nk b).findIdx? (fun p=>p.1.data.toList==s.data.toList)=((Nk b).map (·.1)).findIdx? (fun p=>p.data.toList==s.data.toList):=by rw[List.findIdx?_map];rfl
 unfold C8;rw[e,a,Zn]
theorem Ako(b:Nat->Nat){s:ByteArray}(h:C8 s=O):Qe (Nk b) s=O:=Adc (by rw[qO];exact h)
theorem Hg{s:ByteArray}{i:Nat}(h:C8 s=U i):i<14:=by
 unfold C8 at h;obtain⟨a,_⟩:=List.findIdx?_eq_some_iff_getElem.1 h;exact a
theorem Akn(b:Nat->Nat){s:ByteArray}{i:Nat}(h:C8 s=U i):Qe (Nk b) s=U (Js (Ee i) (.func (.func (Wv i)) #[] (Tm b i))):=
 Adb (by rw[qO];exact h) (Aky b i (Hg h))
theorem Sw{s:ByteArray}{i:Nat}(h:C8 s=U i):s=(Ej.getD i (ByteArray.empty,0)).1:=by
 have d:=Hg h;unfold C8 at h;obtain⟨a,h1,_⟩:=List.findIdx?_eq_some_iff_getElem.1 h;rw[Of,R4 a];exact(Ux.1 h1).symm
theorem Xx{s:ByteArray}{i:Nat}(h:C8 s=U i):(s.toList== [116,105,99,107])=decide (i=3)/\(s.toList== [99,117,116])=decide (i=4):=by
 have d:=Sw h;have a:=Hg h;rw[Zz3,d];match i,a with
 |0,_=>decide
 |1,_=>decide
 |2,_=>decide
 |3,_=>decide
 |4,_=>decide
 |5,_=>decide
 |6,_=>decide
 |7,_=>decide
 |8,_=>decide
 |9,_=>decide
 |10,_=>decide
 |11,_=>decide
 |12,_=>decide
 |13,_=>decide
theorem Aet(M:KpM):Hs M<=11:=by
 unfold Hs;repeat' split
 all_goals omega
theorem Yu(M:KpM)(i:Int):Gv M i<=11:=by
 have:=Aet M;unfold Gv;repeat' split
 all_goals omega
theorem zG(D:Dd):Fk D<=11:=by
 unfold Fk;repeat' split
 all_goals omega
theorem Agm{M:KpM}{T:Nat}(h:Bn M T)(e:T+2<=400000):(Hr M).1<=11:=by
 unfold Hr;split
 ·exact Aet M
 ·rename_i hon;split
  ·exact zG _
  ·rename_i he;split
   ·exact Y2 11
   ·split
    ·obtain⟨h1,_,_⟩:=Uh h (by omega) (by omega);have a:(Kl M).m.off=false:=by
      show M.m.off=false
      cases d:M.m.off
      ·rfl
      ·exfalso;apply hon;unfold Hs;rw[if_pos d];decide
     obtain⟨_,_,h3⟩:=Mz h1 a (Kl M).A.length (Y2 _);unfold Q2;split
     ·omega
     ·exact In _
    ·exact In _
theorem Yq{M:KpM}{T:Nat}(h:Bn M T):∀k,T+2*k<=400000->(Bi M k).1<=11
 |0,_=>In _
 |k+1,hk=>by
  have ih:=Yq h k (by omega)
  have a:=My h k (by omega)
  unfold Bi
  split
  ·exact ih
  ·exact Agm a (by omega)
theorem Pc{txt:ByteArray}{M:KpM}{i:Nat}{ns:List Nat}{T:Nat}(h:Bn M T)(a:T+2*(if i=3 then ns.getD 0 0 else 0)<=400000):(Cr txt M i ns).1<=11:=by
  unfold Cr;split<;>simp only
  ·unfold Ig;have:=Yu M (ns.getD 0 0:Nat);repeat' split
   all_goals(first|omega|(simp only;omega))
  ·unfold Kk;have:=Yu M (ns.getD 0 0:Nat);repeat' split
   all_goals(first|omega|(simp only;omega))
  ·unfold Gm;have:=Yu M (ns.getD 0 0:Nat);repeat' split
   all_goals(first|omega|(simp only;omega))
  ·exact Yq h _ (by simpa using a)
  ·unfold kD;repeat' split
   all_goals(first|omega|(simp only;omega))
  ·unfold Lx;repeat' split
   all_goals(first|omega|(simp only;omega))
  ·split<;>simp only<;>omega
  all_goals omega
theorem Afj{txt:ByteArray}{M:KpM}{line:ByteArray}{T:Nat}(h:Bn M T)(a:T+2*Mc line<=400000):(E9 txt M line).1<=11:=by
 unfold E9;cases d:Jc line with
 |none=>show 1<=11;omega
 |some q=>
  obtain⟨i,ns⟩:=q;rw[I0 d]at a;exact Pc h a
def Kq(i:Nat):Nat:=[9,9,9,99999,99999,0,9,0,0,0,0,0,0,0].getD i 0
theorem Ic{s:ByteArray}{i k:Nat}(h:C8 s=U i)(d:k<14):(s.toList==(Ej.getD k (ByteArray.empty,0)).1.data.toList)=decide (k=i):=by
 have f:=Sw h;have e:=Hg h;rw[Zz3,f];have a:∀i k:Fin 14,((Ej.getD i.1 (ByteArray.empty,0)).1.data.toList==(Ej.getD k.1 (ByteArray.empty,0)).1.data.toList)=decide (k.1=i.1):=by decide
 exact a ⟨i,e⟩ ⟨k,d⟩
theorem Ib{s:ByteArray}{k:Nat}(h:C8 s=O)(e:k<14):(s.toList==(Ej.getD k (ByteArray.empty,0)).1.data.toList)=false:=by
 unfold C8 at h;rw[Zze]at h;have d:k<Ej.length:=e;have:=h Ej[k] (M2 d);rw[Zz3,Of,R4 d];show(s.data.toList==Ej[k].1.data.toList)=false
 rw[Bool.eq_false_iff]at this ⊢;intro a;apply this;rw[beq_iff_eq]at a ⊢;exact a.symm
theorem Gi{s:ByteArray}{i:Nat}(h:C8 s=U i):(s.toList== [98,101,103,105,110])=decide (0=i)/\(s.toList== [115,116,111,112])=decide (1=i)/\(s.toList== [114,101,112,111,114,116])=decide (2=i)/\(s.toList== [116,105,99,107])=decide (3=i)/\(s.toList== [99,117,116])=decide (4=i)/\(s.toList== [98,111,111,116])=decide (5=i)/\(s.toList== [115,116,97,116,117,115])=decide (6=i)/\(s.toList== [110,111,119])=decide (7=i)/\(s.toList== [107,105,99,107,115])=decide (8=i)/\(s.toList== [116,111,116,97,108])=decide (9=i)/\(s.toList== [115,116,97,116,101])=decide (10=i)/\(s.toList== [99,97,117,115,101])=decide (11=i)/\(s.toList== [108,111,103])=decide (12=i)/\(s.toList== [99,111,110,102,105,103])=decide (13=i):=
 ⟨Ic h (k:=0) (by decide),Ic h (k:=1) (by decide),Ic h (k:=2) (by decide),Ic h (k:=3) (by decide),Ic h (k:=4) (by decide),Ic h (k:=5) (by decide),Ic h (k:=6) (by decide),Ic h (k:=7) (by decide),Ic h (k:=8) (by decide),Ic h (k:=9) (by decide),Ic h (k:=10) (by decide),Ic h (k:=11) (by decide),Ic h (k:=12) (by decide),Ic h (k:=13) (by decide)⟩
theorem vV(s:ByteArray)(w:V)(h:C8 s=O):ZH ZI 12 #[ZB s] w fun e w'=>e=ZD (.tuple #[I J 0,I J 0,.bool false])/\w=w':=by
 have i:(s.toList== [98,101,103,105,110])=false:=by have:=Ib h (k:=0) (by decide);exact this
 have j:(s.toList== [115,116,111,112])=false:=by have:=Ib h (k:=1) (by decide);exact this
 have l:(s.toList== [114,101,112,111,114,116])=false:=by have:=Ib h (k:=2) (by decide);exact this
 have m:(s.toList== [116,105,99,107])=false:=by have:=Ib h (k:=3) (by decide);exact this
 have n:(s.toList== [99,117,116])=false:=by have:=Ib h (k:=4) (by decide);exact this
 have o:(s.toList== [98,111,111,116])=false:=by have:=Ib h (k:=5) (by decide);exact this
 have p:(s.toList== [115,116,97,116,117,115])=false:=by have:=Ib h (k:=6) (by decide);exact this
 have q:(s.toList== [110,111,119])=false:=by have:=Ib h (k:=7) (by decide);exact this
 have t:(s.toList== [107,105,99,107,115])=false:=by have:=Ib h (k:=8) (by decide);exact this
 have u:(s.toList== [116,111,116,97,108])=false:=by have:=Ib h (k:=9) (by decide);exact this
 have a:(s.toList== [115,116,97,116,101])=false:=by have:=Ib h (k:=10) (by decide);exact this
 have d:(s.toList== [99,97,117,115,101])=false:=by have:=Ib h (k:=11) (by decide);exact this
 have f:(s.toList== [108,111,103])=false:=by have:=Ib h (k:=12) (by decide);exact this
 have g:(s.toList== [99,111,110,102,105,103])=false:=by have:=Ib h (k:=13) (by decide);exact this
 clear h;go_enter func12,ntmps12;go_wp2_with fail;go_ret3;exact⟨rfl,rfl⟩
theorem vU(s:ByteArray)(w:V){i:Nat}(h:C8 s=U i):ZH ZI 12 #[ZB s] w fun e w'=>e=ZD (.tuple #[I J (Ee i),I J (Kq i),.bool true])/\w=w':=by
 have y:=Hg h;have hi:i=0\/i=1\/i=2\/i=3\/i=4\/i=5\/i=6\/i=7\/i=8\/i=9\/i=10\/i=11\/i=12\/i=13:=by omega
 obtain⟨j,l,m,n,o,p,q,t,u,v,a,d,f,g⟩:=Gi h;clear h y;rcases hi with rfl|rfl|rfl|rfl|rfl|rfl|rfl|rfl|rfl|rfl|rfl|rfl|rfl|rfl;all_goals
  simp only[Nat.reduceEqDiff,eq_self,decide_true,decide_false]at j l m n o p q t u v a d f g;go_enter func12,ntmps12;go_wp2_with fail;go_ret3;exact⟨rfl,rfl⟩
theorem rF(B:Nat)(s:ByteArray)(H:s.size<=100000)(w:V)(m:U3 B w)(q:B<=w.heap.size):
  ZH ZI 77 #[ZB s] w fun e w'=>∃n,e=ZD (.tuple #[I J n,.bool (Gu s).isSome])/\(∀k,Gu s=U k->n=k)/\Below w.heap.size w w':=by
 have HN:=G m;have HB:=G q;cases i:Lib.atoiAll s.data.toList;case ok v=>
  obtain⟨M,R⟩:=Lib.atoiAll_bounds i;have j:=G (Tryz.strconv_Atoi_ok s (by omega) v i w);have f:=G (show Gu s=if s.size<=5/\0<=v/\Lib.itoa v=s.data.toList then U v.toNat else O from by unfold Gu;rw[i]);have o:=G (fun W (hW:Below w.heap.size w W)=>M4 B v W ((m.below hW q).tab) M R);clear i m M R q H;go_enter func77,ntmps77;go_wp2_with fail;refine j.mono ?_;rintro e w1 ⟨rfl,T⟩;have a:Below w.heap.size w w1:=by
   rcases T with rfl|⟨t,rfl⟩
   ·exact R1 _ _
   ·exact Lib.bytesWorld_below _ _ _
  clear T j;have X:=G (o w1 a);clear o;by_cases h5:(s.size:Int)<=5
  ·by_cases h0:0<=v
   ·obtain⟨z,hz⟩:∃z,(Lib.itoa v==s.toList)=z:=⟨_,rfl⟩
    have Z:=G hz;have D:=G (show s.size<=5 from by omega);have K:=G h0;have l:(Lib.itoa v=s.data.toList)↔z=true:=by
     rw[<-Z.out,beq_iff_eq,Zz3]
    have L:=G l;clear l;have g:Hid (z=(Gu s).isSome):=G (by
     rw[f.out];cases z
     ·rw[if_neg (fun C=>by have:=L.1 C.2.2;cases this)];rfl
     ·rw[if_pos ⟨D.out,K.out,L.2 rfl⟩];rfl)
    have Y:Hid (∀k,Gu s=U k->v=k):=G (by
     intro k d;rw[f.out]at d;split at d
     ·have:=Option.some.inj d;have:=K.out;omega
     ·cases d)
    go_wp2_with fail;refine X.mono ?_;rintro e w2 ⟨rfl,b2⟩;have E:=a.trans (b2.mono a.size);go_wp2_with fail;refine bodyPost_ret (results_tmp2 rfl _ _ _) rfl ?_;exact⟨_,by rw[<-g.out];rfl,Y.out,E⟩
   ·have g:Hid (Gu s=O):=G (by rw[f.out,if_neg (fun C=>h0 C.2.1)]);clear f;go_wp2_with fail;refine bodyPost_ret (results_tmp2 rfl _ _ _) rfl ?_;exact⟨_,by rw[g.out];rfl,(fun k d=>by rw[g.out]at d;cases d),a⟩
  ·have g:Hid (Gu s=O):=G (by rw[f.out,if_neg (fun C=>h5 (by omega))]);clear f;go_wp2_with fail;refine bodyPost_ret (results_tmp2 rfl _ _ _) rfl ?_;exact⟨_,by rw[g.out];rfl,(fun k d=>by rw[g.out]at d;cases d),a⟩
 case range=>
  obtain⟨t,p,u⟩:=m.er;have g:Hid (Gu s=O):=G (by unfold Gu;rw[i]);have j:=G (Tryz.strconv_Atoi_range s (by omega) i (.iface t p) w u (.inr ⟨_,_,rfl⟩));clear i m u q H;go_enter func77,ntmps77;go_wp2_with fail;refine j.mono ?_;rintro e w1 ⟨N,rfl,_,_,a⟩;clear j;go_wp2_with fail;refine bodyPost_ret (results_tmp2 rfl _ _ _) rfl ?_;exact⟨_,by rw[g.out];rfl,(fun k d=>by rw[g.out]at d;cases d),a⟩
 all_goals
  obtain⟨t,p,y⟩:=m.es;have g:Hid (Gu s=O):=G (by unfold Gu;rw[i]);have j:=G (strconv_Atoi_bad s (by omega) (fun v A=>by rw[i]at A;cases A) (fun A=>by rw[i]at A;cases A) (.iface t p) w y (.inr ⟨_,_,rfl⟩));clear i m y q H;go_enter func77,ntmps77;go_wp2_with fail;refine j.mono ?_;rintro e w1 ⟨N,rfl,_,_,a⟩;clear j;go_wp2_with fail;refine bodyPost_ret (results_tmp2 rfl _ _ _) rfl ?_;exact⟨_,by rw[g.out];rfl,(fun k d=>by rw[g.out]at d;cases d),a⟩
theorem Ak0(B:Nat)(a:Nat->Addr)(k:Nat)(w:V)(l:Ii B a w):
  ZH ZI 40 #[errv a (k+1)] w fun e w'=>e=ZD (errv a (k+1))/\Below w.heap.size w w':=by
 have f:=(R1 w.heap.size w).alloc (Y2 _) (.cells #[ZA O] 154);have i:=G (Ama (a k) ⟨w.heap.size,0,O⟩ (w.alloc (.cells #[ZA O] 154)) (by have:=l.below f;exact this.et));have g:=G f;clear l f;rw[Gf];go_enter func40,ntmps40;go_wp2_with fail;refine i.mono ?_;rintro e w1 ⟨rfl,j⟩;have d:=G (g.trans (j.mono (by simp)));clear j i g;go_wp2_with fail;go_ret;exact⟨rfl,d.out⟩
theorem N0(v:ZE)(w:V):ZH ZI 119 #[v] w fun e w'=>e=ZD (.tuple #[ZB okS,v])/\w=w':=by
 go_enter func119,ntmps119;go_wp2_with fail;go_ret2;exact⟨rfl,rfl⟩
