import Derived.Test.YtikehilbmldadaaGreatDoorP34
import Derived.Test.YtikehilbmldadaaGreatDoorP40
import Derived.Test.YtikehilbmldadaaGreatDoorP29
import Derived.Lib.SlicesS
import Derived.Lib.Bytealg
set_option maxHeartbeats 8000000
set_option maxRecDepth 1000000
set_option linter.unusedVariables false
namespace Go.Proofs.YtikehilbmldadaaGreatDoor
open Proofs.Tryz YtikehilbmldadaaGreatDoor.Tryz RowKit
open Go renaming World->V,Value->ZE,RowKit.Below->ZF,RowKit.Hid->ZG,Calls->ZH,Value.int->I,IntKind.i64->J,Value.slice->F,Value.pointer->ZA,Value.string->ZB,Obj.cells->ZC,Ending.returned->ZD,Proofs.Tryz.prog->ZI
open Option renaming some->U,none->O
def Nc:W1->ByteArray
 |.str s=>s
 |.num n=>⟨(Lib.itoa n).toArray⟩
theorem Ak7(x:W1):(Nc x).data.toList=Ch x:=by cases x<;>simp[Nc,Ch]
def Ci(ws:List W1):ByteArray:=⟨(Cy 32 (ws.map Ch)).toArray⟩
theorem Qx(ws:List W1):(Ci ws).data.toList=Cy 32 (ws.map Ch):=by simp[Ci]
theorem Aji(f:List W1)(h1:1<=f.length)(i:f.length<=5):Br f=(Ci f).data.toList++ [10]:=by
 rw[Qx];match f,h1,i with
 |[a],_,_=>rw[Ann];simp[Cy]
 |[a,b],_,_=>rw[pT];simp[Cy]
 |[a,b,c],_,_=>rw[Aeo];simp[Cy]
 |[a,b,c,d],_,_=>rw[Ami];simp[Cy]
 |[a,b,c,d,e],_,_=>rw[Amh];simp[Cy]
theorem Pk:∀{a b:List ByteArray},a.map (·.data.toList)=b.map (·.data.toList)->a=b
 |[],[],_=>rfl
 |[],_::_,h=>by cases h
 |_::_,[],h=>by cases h
 |x::a,y::b,h=>by
  rw[Zz1,Zz1]at h
  obtain⟨h1,h2⟩:=List.cons.inj h
  rw[Kd h1,Pk h2]
def Ak6(b:UInt8)(ws:List W1):Prop:=∀x∈ws,b∉Ch x
theorem Ajh{a:List W1}(h1:a≠ [])(h:Ak6 32 a):Ky (Ci a)=a.map Nc:=by
 refine Pk ?_;unfold Ky;rw[J0,Qx,Rw 32 _ (by simpa using h1) (fun p d=>by obtain⟨x,e,rfl⟩:=List.mem_map.1 d;exact h x e),Zyo];exact List.map_congr_left (fun x _=>(Ak7 x).symm)
theorem xS(c b:UInt8)(a:b≠c):∀ps:List (List UInt8),(∀p∈ps,b∉p)->b∉Cy c ps
 |[],_=>by simp[Cy]
 |[p],h=>h p (by simp)
 |p::q::ps,h=>by
  have:=xS c b a (q::ps) (fun x d=>h x (Zz5 _ d))
  rw[Pq c p (by simp),List.mem_append,List.mem_cons]
  rintro(h1|h1|h1)
  ·exact h p (by simp) h1
  ·exact a h1
  ·exact this h1
theorem Agd{a:List W1}(h:Ak6 10 a):10∉(Ci a).data.toList:=by
 rw[Qx];exact xS 32 10 (by decide) _ (fun p d=>by obtain⟨x,e,rfl⟩:=List.mem_map.1 d;exact h x e)
theorem Jl{st:RdS}{s w0:ByteArray}{ts:List ByteArray}{k:Nat}{fs:ByteArray}{n:List Int}(e:Ky s=w0::ts)(i:Kp w0=U (k,fs))(a:ts.length=fs.size)(l:Cb st.stage k=true)
  (m:Bk (Cd st.c.ents).points fs.data.toList ts fs.size=U (n,false)):Cp st s=(0,⟨Cc k (ts.getD 0 ByteArray.empty) n st.c,(k:Int)⟩):=by
 have f:Jf s=w0:=by unfold Jf;rw[e];rfl
 have h1:Ia w0=true:=by unfold Ia;rw[i];rfl
 have h2:Ca w0=k:=by unfold Ca;rw[i];rfl
 have h3:Cm w0=fs:=by unfold Cm;rw[i];rfl
 have j:Gl st s=true:=by
  unfold Gl;rw[f,h1,h2,h3,l,e,Zz7,Zxr,a];simp
 have d:Pn st s=U (n,false):=by
  unfold Pn;rw[f,h3,e];exact m
 unfold Cp;rw[if_pos j,d,f,h2,e];rfl
theorem Hf{pts:List ByteArray}{fs:List UInt8}{ts:List ByteArray}{k:Nat}{p q:List Int × Bool}(h:Bk pts fs ts k=U p)(h2:Co pts (fs.getD k 0) (ts.getD k ByteArray.empty) p=U q):Bk pts fs ts (k+1)=U q:=by
 show(match Bk pts fs ts k with|none=>O|some p=>Co pts (fs.getD k 0) (ts.getD k ByteArray.empty) p)=U q
 rw[h];exact h2
theorem vG{pts:List ByteArray}{t:ByteArray}{p:List Int × Bool}{k:Nat}(h:Fx t=U k):Co pts 110 t p=U (p.1++ [(k:Int)],p.2):=by
 unfold Co;rw[if_pos rfl,h]
theorem Ae2{pts:List ByteArray}{t:ByteArray}{p:List Int × Bool}{i:Int}(h:Dr pts t=i)(h0:0<=i)(a:t.size≠0):Co pts 112 t p=U (p.1++ [i],p.2):=by
 unfold Co;rw[if_neg (by decide),if_neg a,if_pos rfl,h,N1 (by omega),Bool.or_false]
theorem Ane{pts:List ByteArray}{t:ByteArray}{p:List Int × Bool}(a:t.size≠0):Co pts 115 t p=U p:=by
 unfold Co;rw[if_neg (by decide),if_neg a,if_neg (by decide)]
structure Qa (E:Ak):Prop where
 good:Ed E
 name:Bt E.name=true
 pts:∀s∈E.points,Bt s=true
 dis:∀(i j:Nat) (hi:i<E.points.length) (hj:j<E.points.length),j<i->E.points[j]≠E.points[i]
 cmm:E.count= -1->E.mn=0/\E.mx=0
 cnt:E.count= -1\/(0<=E.count/\E.count<(E.points.length:Int))
theorem Ai0{s:ByteArray}(h:Bt s=true)(b:UInt8)(j:b.toNat<45):b∉s.data.toList:=by
 intro f;obtain⟨i,hi,e⟩:=List.mem_iff_getElem.1 f;have a:i<s.size:=by rw[C2]at hi;exact hi
 by_cases d:okN i s[i]=true
 ·have:s[i]=b:=by rw[<-e];rfl
  rw[this]at d;simp only[okN,decide_eq_true_eq]at d;omega
 ·rw[Ho i a (by simpa using d)]at h;cases h
theorem I3{s:ByteArray}(h:Bt s=true):s.size≠0:=by
 intro h0;rw[Hz (by omega)]at h;cases h
theorem Af5{P:List ByteArray}(h:Kw P=0):∀j,j<P.length->ptE P j=0:=by
 have a:∀n,∀j,j<n->j<P.length->ptE P j=0:=by
  intro n;induction n with
  |zero=>intro j h1;omega
  |succ n ih=>
   intro j h1 h2;by_cases d:j<n
   ·exact ih j d h2
   ·obtain rfl:j=n:=by omega
    by_cases e:ptE P j=0
    ·exact e
    ·rw[N9 h2 e (fun i hi=>ih i hi (by omega))]at h;exact h
 exact fun j d=>a (j+1) j (by omega) d
theorem Al1{ah:List ByteArray}{E:Ak}(h:A8 ah E=0):Qa E:=by
 have o:=Xk h;have h1:Bt E.name=true:=by
  cases a:Bt E.name
  ·rw[Q9 a]at h;cases h
  ·rfl
 have h2:B3 ah E.name=false:=by
  cases a:B3 ah E.name
  ·rfl
  ·rw[P1 h1 a]at h;cases h
 have h3:Gp E=false:=by
  cases a:Gp E
  ·rfl
  ·rw[P3 h1 h2 a]at h;cases h
 have d:Kw E.points=0:=by
  by_cases a:Kw E.points=0
  ·exact a
  ·rw[Ti h1 h2 h3 a]at h;exact h
 rw[P0 h1 h2 h3 d]at h;have m:=Xp h;have e:=m 0 (by decide);have f:=m 1 (by decide);simp only[C6]at e f;unfold Kf at e;rw[Bool.or_eq_false_iff]at e;have s2:=e.1;simp only[Xf,Tl,decide_eq_false_iff_not]at s2 f;refine⟨o,h1,Ta d,fun i j hi t p n=>?_,fun l=>⟨?_,?_⟩,by omega⟩
 ·have u:=Af5 d i hi;have q:Bt E.points[i]=true:=Ta d _ (M2 hi);have:ptE E.points i=6:=pK hi q (Pt j (by rw[By];omega) (by rw[List.getElem_take,n]));omega
 ·by_cases a:E.mn=0
  ·exact a
  ·exact absurd ⟨l,.inl a⟩ f
 ·by_cases a:E.mx=0
  ·exact a
  ·exact absurd ⟨l,.inr a⟩ f
theorem Ls{E:Ak}(h:Qa E){k:Int}(h0:0<=k)(l:k<(E.points.length:Int)):Dr E.points (A9 E k)=k/\Bt (A9 E k)=true:=by
 obtain⟨n,rfl⟩:∃n:Nat,k=n:=⟨k.toNat,(Zzu h0).symm⟩
 have a:n<E.points.length:=by omega
 have e:A9 E (n:Int)=E.points[n]:=by
  unfold A9;rw[Zzc,Of,R4 a];rfl
 rw[e];refine⟨Ss a rfl (fun j i d f=>?_),h.pts _ (M2 a)⟩;refine h.dis n j a i d ?_;rw[Zz3,Zz3]at f;exact Kd f
theorem Aga(n:Int)(h:0<=n)(b:UInt8)(d:b.toNat<45):b∉Ch (.num n):=by
 obtain⟨m,rfl⟩:∃m:Nat,n=m:=⟨n.toNat,(Zzu h).symm⟩
 show b∉Lib.itoa (m:Int)
 rw[Ko];intro a;have:=Jr m b a;simp only[M5,decide_eq_true_eq]at this;omega
theorem Kh{n:Int}(h:0<=n)(h2:n<=1099511627776):∃k:Nat,n=k/\Fx (Nc (.num n))=U k:=by
 obtain⟨m,rfl⟩:∃m:Nat,n=m:=⟨n.toNat,(Zzu h).symm⟩
 exact⟨m,rfl,Yj m (by omega)⟩
def U0:W1->Prop
 |.str s=>Bt s=true\/s∈ [Nu,Qm,Tj,Kt,Abz,Rc,Xc,Xd,gX,gN]
 |.num n=>0<=n
theorem Zc{e:List W1}(h:∀x∈e,U0 x)(b:UInt8)(d:b.toNat<45):Ak6 b e:=by
 intro x i;have:=h x i;cases x with
 |num n=>exact Aga n this b d
 |str s=>
  rcases this with h1|h1
  ·exact Ai0 h1 b d
  ·have a:∀s∈ [Nu,Qm,Tj,Kt,Abz,Rc,Xc,Xd,gX,gN],∀c∈s.data.toList,45<=c.toNat:=by decide
   intro f;have:=a s h1 b f;omega
def Lm(st:RdS):List ByteArray->Option RdS
 |[]=>U st
 |s::l=>if (Cp st s).1=0 then Lm (Cp st s).2 l else O
theorem Mt(st:RdS)(a b:List ByteArray){st':RdS}(h:Lm st a=U st'):Lm st (a++b)=Lm st' b:=by
 induction a generalizing st with
 |nil=>obtain rfl:=Option.some.inj h;rfl
 |cons s a ih=>
  simp only[Lm,Zyl]at h ⊢;split at h
  ·next hz=>rw[if_pos hz];exact ih _ h
  ·cases h
theorem vY{st st':RdS}{s:ByteArray}(h:Cp st s=(0,st')):Lm st [s]=U st':=by simp[Lm,h]
theorem Rp{st st1 st':RdS}{s:ByteArray}{l:List ByteArray}(h:Cp st s=(0,st1))(h2:Lm st1 l=U st'):Lm st (s::l)=U st':=by simp[Lm,h,h2]
theorem An1(w0 cl:V)(R:Nat->Prop)(E:Ak)(pa ga ea fa la:Option Addr)(pc gc ec fc lc eb:Nat)(HG:ZG (Ed E))(gs:ZG (EB w0 R E (F pa E.points.length pc) (F ga E.gaps.length gc) (F ea E.edges.length ec) (F fa E.first.length fc) (F la E.last.length lc) eb cl))(S0:ByteArray)(l:List UInt8)(hl:ZG (S0.data.toList=l))(d:l.length<=900000)(Q0:Exit->Act->V->Prop)(x0 x1 x2 x4 x6 x7 x8 x9 cm cn co cp cq cr cs ct cx di dr ds dt du dv dw dx dy dz d3 d4 d5 d6 d7 d8 d9 ed ee ef eg eh ei ej ek el em en eo ep er es et eu ev ew ex ey ez e0 e1 e2 e3 e4 e5 e6 e7 e8 e9 fb fd fe ff fg fh fi fj fk fl fm fn fo fp fq ft fu fv fw fx fy fz f0 f1 f2 f3 f4 f5 f6 f7 f8 f i m n o q t u v y A B C D H K L M N Q T X Y Z aa ab ac ad ae af ag ah ai aj ak al am an ao ap aq ar au av aw ax ay az a0 a1 a2 a3 a4 a5 a6 a7 a8 a9 ba bb bc bd bf bg bh bi bj bk bl bm bn bo bp bq br bs bt bu bv bw bx bz b0 b1 b2 b3 b4 cu cv cw cy cz da db dc dd de df dg dh dj dk dl dm dn dp dq b5:ZE)
  (a:∀(y11 y187 y188 y189 y190 y191 y192 y193 y194 y195 y196 y197 y198 y199 y200 y201 y202 y203 y204 y205 y206:ZE) (S1:ByteArray) (w':V),S1.data.toList=l++Ai (E.last.map (D3 E))->EB w0 R E (F pa E.points.length pc) (F ga E.gaps.length gc) (F ea E.edges.length ec) (F fa E.first.length fc) (F la E.last.length lc) eb w'->Q0 .normal ⟨(List.toArray (x0::x1::x2::(ZB S1)::x4::(ZA (U ⟨eb,0,O⟩))::x6::x7::x8::x9::cm::y11::cn::co::cp::cq::cr::cs::ct::cx::di::dr::ds::dt::du::dv::dw::dx::dy::dz::d3::d4::d5::d6::d7::d8::d9::ed::ee::ef::eg::eh::ei::ej::ek::el::em::en::eo::ep::er::es::et::eu::ev::ew::ex::ey::ez::e0::e1::e2::e3::e4::e5::e6::e7::e8::e9::fb::fd::fe::ff::fg::fh::fi::fj::fk::fl::fm::fn::fo::fp::fq::ft::fu::fv::fw::fx::fy::fz::f0::f1::f2::f3::f4::f5::f6::f7::f8::f::i::m::n::o::q::t::u::v::y::A::B::C::D::H::K::L::M::N::Q::T::X::Y::Z::aa::ab::ac::ad::ae::af::ag::ah::ai::aj::ak::al::am::an::ao::ap::aq::ar::au::av::aw::ax::ay::az::a0::a1::a2::a3::a4::a5::a6::a7::a8::a9::ba::bb::bc::bd::bf::bg::bh::bi::bj::bk::bl::bm::bn::bo::bp::bq::br::bs::bt::bu::bv::bw::bx::bz::b0::b1::b2::b3::b4::y187::y188::y189::y190::y191::y192::y193::y194::y195::y196::y197::y198::y199::y200::y201::y202::y203::y204::y205::y206::b5:: [])),[]⟩ w'):
  Code.wp ZI (qN 10) Q0 ⟨(List.toArray (x0::x1::x2::(ZB S0)::x4::(ZA (U ⟨eb,0,O⟩))::x6::x7::x8::x9::cm::(I J 0)::cn::co::cp::cq::cr::cs::ct::cx::di::dr::ds::dt::du::dv::dw::dx::dy::dz::d3::d4::d5::d6::d7::d8::d9::ed::ee::ef::eg::eh::ei::ej::ek::el::em::en::eo::ep::er::es::et::eu::ev::ew::ex::ey::ez::e0::e1::e2::e3::e4::e5::e6::e7::e8::e9::fb::fd::fe::ff::fg::fh::fi::fj::fk::fl::fm::fn::fo::fp::fq::ft::fu::fv::fw::fx::fy::fz::f0::f1::f2::f3::f4::f5::f6::f7::f8::f::i::m::n::o::q::t::u::v::y::A::B::C::D::H::K::L::M::N::Q::T::X::Y::Z::aa::ab::ac::ad::ae::af::ag::ah::ai::aj::ak::al::am::an::ao::ap::aq::ar::au::av::aw::ax::ay::az::a0::a1::a2::a3::a4::a5::a6::a7::a8::a9::ba::bb::bc::bd::bf::bg::bh::bi::bj::bk::bl::bm::bn::bo::bp::bq::br::bs::bt::bu::bv::bw::bx::bz::b0::b1::b2::b3::b4::cu::cv::cw::cy::cz::da::db::dc::dd::de::df::dg::dh::dj::dk::dl::dm::dn::dp::dq::b5:: [])),[]⟩ cl:=by
 have HEXIT:=G a;have HLen:=G d;clear a d;conv=>arg 2;whnf
 go_wp2_with fail;go_loopw [3,11] (fun s3 ca wr=>∃(k:Nat) (S:ByteArray),k<=E.last.length/\s3=ZB S/\ca=I J k/\ZG (S.data.toList=l++Ai ((E.last.take k).map (D3 E)))/\ZG (EB w0 R E (F pa E.points.length pc) (F ga E.gaps.length gc) (F ea E.edges.length ec) (F fa E.first.length fc) (F la E.last.length lc) eb wr)) (fun _ ca _=>E.last.length-(intOf ca).toNat);case atStart=>exact⟨0,S0,In _,rfl,rfl,(show S0.data.toList=l++Ai ((E.last.take 0).map (D3 E))from by rw[hl.out];simp[Ai]),gs⟩
 case round=>
  obtain⟨k,S,hk,rfl,rfl,hS,he⟩:=hrel;obtain⟨c0,c1,c2,c3,c4,c5,c6,c7,c8,c9⟩:=he.cells;have gt:=HG.ll;by_cases b8:k<E.last.length
  ·have gn:S.size<=903296+206*64:=by
    have h1:=Oh (D3 E) E.last k 16 gt (fun x hx=>Qy HG x);have h2:=HLen.out;rw[dsize,hS.out,R2];omega
   have cb:=G (Mx (D3 E) E.last k b8);obtain⟨xb,xo,rfl,ii,il,ch⟩:=I4 he.sl.l (by omega);have r0:=ch k b8;obtain⟨x,hx⟩:∃x,x=E.last[k]:=⟨_,rfl⟩
   have ck:=HG.ls E.last[k] (M2 b8);rw[<-hx]at r0 cb ck;obtain⟨gk,gl⟩:=ck;obtain⟨j1,b7⟩:∃j:Nat,x=(j:Int):=⟨x.toNat,by omega⟩
   have b9:j1<E.points.length:=by omega
   obtain⟨pb,po,rfl,ih,ik,cg⟩:=E8 he.sl.p (by omega);have q1:=cg j1 b9;have gv:=HG.ps _ (M2 b9);have b6:=G (Ai9 E x);rw[Ng b7 b9]at b6;obtain⟨s1,e⟩:∃s,s=E.points[j1]:=⟨_,rfl⟩
   rw[<-e]at q1 gv b6;rw[b7]at r0;obtain⟨T0,cc,f9,gp⟩:=Bh (P:=ZI) S ⟨#[108,97,115,116,32]⟩ (by have:=(show(⟨#[108,97,115,116,32]⟩:ByteArray).size=5 from rfl);omega);rw[(show(⟨#[108,97,115,116,32]⟩:ByteArray).size=5 from rfl)]at f9;obtain⟨T1,cd,g1,gq⟩:=Bh (P:=ZI) T0 s1 (by omega);obtain⟨T2,ce,g2,gr⟩:=Bh (P:=ZI) T1 ⟨#[10]⟩ (by have:=(show(⟨#[10]⟩:ByteArray).size=1 from rfl);omega);clear cg ch hx e gk gl b7;have gu:ZG (T2.data.toList=l++Ai ((E.last.take (k+1)).map (D3 E))):=G (by
    rw[cb.out,b6.out,<-F6,<-hS.out];rw[ce,cd,cc];simp)
   clear cc f9 cd g1 ce g2 gn;go_wp2_with fail;go_quiet (fail);go_wp2_with fail;go_roundw;case rel=>exact⟨k+1,T2,by omega,rfl,by go_num,gu,he.keep (Ck _ (Ac.refl (fun _=>False) _)) (fun _ h _=>h.elim)⟩
   case measure=>simp[intOf];omega
  ·have cj:k=E.last.length:=by omega
   have ge:ZG (S.data.toList=l++Ai (E.last.map (D3 E))):=G (by rw[hS.out,cj,Zz2]);clear cj;go_wp2_with fail;exact HEXIT _ _ _ _ _ _ _ _ _ _ _ _ _ _ _ _ _ _ _ _ _ _ _ ge he.out
theorem An2(w0 dn:V)(R:Nat->Prop)(E:Ak)(pa ga ea fa la:Option Addr)(pc gc ec fc lc f:Nat)(HG:ZG (Ed E))(ji:ZG (EB w0 R E (F pa E.points.length pc) (F ga E.gaps.length gc) (F ea E.edges.length ec) (F fa E.first.length fc) (F la E.last.length lc) f dn))(S0:ByteArray)(l:List UInt8)(hl:ZG (S0.data.toList=l))(C:l.length<=900000)(Q0:Exit->Act->V->Prop)(x0 x1 x2 x4 x6 x8 x9 dp d3 eh et ey ez e0 e1 e2 e3 e4 e5 e6 e7 e8 e9 fb fd fe ff fg fh fi fj fk fl fm fn fo fp fq ft fu fv fw fx fy fz f0 f1 f2 f3 f4 f5 f6 f7 f8 f9 gd ge gf gg gh gi gj gk gm gn gp gq gr gt gu gv gw gx gy gz g4 g5 g6 g7 g8 g9 ia ib ic id ie ig ih ii ij ik jz j0 j3 j4 j5 j6 dq dr ds dt du dv dw dx dy dz d4 d5 d6 d7 d8 d9 ed ee ef eg ei ej ek el em en eo ep er es eu ev ew ex L M N Q T X Y Z aa ab ac ad ae af ag ah ai aj ak al am an ao ap aq ar au av aw ax ay az a0 a1 a2 a3 a4 a5 a6 a7 a8 a9 ba bb bc bd bf bg bh bi bj bk bl bm bn bo bp bq br bs bt bu bv bw bx bz b0 b1 b2 b3 b4 b5 b6 b7:ZE)
  (i:∀(y7 y8 y94 y95 y96 y97 y98 y99 y100 y101 y102 y103 y104 y105 y106 y107 y108 y109 y110 y111 y112 y113 y114 y115 y116 y117 y118 y119 y120 y121 y122 y123 y124 y125 y126 y127 y128 y129 y130 y131 y132 y133:ZE) (S1:ByteArray) (w':V),S1.data.toList=l++Ai (E.gaps.map (Dj E))->EB w0 R E (F pa E.points.length pc) (F ga E.gaps.length gc) (F ea E.edges.length ec) (F fa E.first.length fc) (F la E.last.length lc) f w'->Q0 .normal ⟨(List.toArray (x0::x1::x2::(ZB S1)::x4::(ZA (U ⟨f,0,O⟩))::x6::y7::y8::x9::dp::d3::eh::et::ey::ez::e0::e1::e2::e3::e4::e5::e6::e7::e8::e9::fb::fd::fe::ff::fg::fh::fi::fj::fk::fl::fm::fn::fo::fp::fq::ft::fu::fv::fw::fx::fy::fz::f0::f1::f2::f3::f4::f5::f6::f7::f8::f9::gd::ge::gf::gg::gh::gi::gj::gk::gm::gn::gp::gq::gr::gt::gu::gv::gw::gx::gy::gz::g4::g5::g6::g7::g8::g9::ia::ib::ic::id::ie::ig::ih::ii::ij::ik::y94::y95::y96::y97::y98::y99::y100::y101::y102::y103::y104::y105::y106::y107::y108::y109::y110::y111::y112::y113::y114::y115::y116::y117::y118::y119::y120::y121::y122::y123::y124::y125::y126::y127::y128::y129::y130::y131::y132::y133::L::M::N::Q::T::X::Y::Z::aa::ab::ac::ad::ae::af::ag::ah::ai::aj::ak::al::am::an::ao::ap::aq::ar::au::av::aw::ax::ay::az::a0::a1::a2::a3::a4::a5::a6::a7::a8::a9::ba::bb::bc::bd::bf::bg::bh::bi::bj::bk::bl::bm::bn::bo::bp::bq::br::bs::bt::bu::bv::bw::bx::bz::b0::b1::b2::b3::b4::b5::b6::b7:: [])),[]⟩ w'):
  Code.wp ZI (qN 4) Q0 ⟨(List.toArray (x0::x1::x2::(ZB S0)::x4::(ZA (U ⟨f,0,O⟩))::x6::(I J 0)::x8::x9::dp::d3::eh::et::ey::ez::e0::e1::e2::e3::e4::e5::e6::e7::e8::e9::fb::fd::fe::ff::fg::fh::fi::fj::fk::fl::fm::fn::fo::fp::fq::ft::fu::fv::fw::fx::fy::fz::f0::f1::f2::f3::f4::f5::f6::f7::f8::f9::gd::ge::gf::gg::gh::gi::gj::gk::gm::gn::gp::gq::gr::gt::gu::gv::gw::gx::gy::gz::g4::g5::g6::g7::g8::g9::ia::ib::ic::id::ie::ig::ih::ii::ij::ik::jz::j0::j3::j4::j5::j6::dq::dr::ds::dt::du::dv::dw::dx::dy::dz::d4::d5::d6::d7::d8::d9::ed::ee::ef::eg::ei::ej::ek::el::em::en::eo::ep::er::es::eu::ev::ew::ex::L::M::N::Q::T::X::Y::Z::aa::ab::ac::ad::ae::af::ag::ah::ai::aj::ak::al::am::an::ao::ap::aq::ar::au::av::aw::ax::ay::az::a0::a1::a2::a3::a4::a5::a6::a7::a8::a9::ba::bb::bc::bd::bf::bg::bh::bi::bj::bk::bl::bm::bn::bo::bp::bq::br::bs::bt::bu::bv::bw::bx::bz::b0::b1::b2::b3::b4::b5::b6::b7:: [])),[]⟩ dn:=by
 have HEXIT:=G i;have HLen:=G C;clear i C;conv=>arg 2;whnf
 go_wp2_with fail;go_loopw [3,7] (fun s3 s7 wr=>∃(k:Nat) (S:ByteArray),k<=E.gaps.length/\s3=ZB S/\s7=I J k/\ZG (S.data.toList=l++Ai ((E.gaps.take k).map (Dj E)))/\ZG (EB w0 R E (F pa E.points.length pc) (F ga E.gaps.length gc) (F ea E.edges.length ec) (F fa E.first.length fc) (F la E.last.length lc) f wr)) (fun _ s7 _=>E.gaps.length-(intOf s7).toNat);case atStart=>exact⟨0,S0,In _,rfl,rfl,(show S0.data.toList=l++Ai ((E.gaps.take 0).map (Dj E))from by rw[hl.out];simp[Ai]),ji⟩
 case round=>
  obtain⟨k,S,hk,rfl,rfl,hS,he⟩:=hrel;obtain⟨c0,c1,c2,c3,c4,c5,c6,c7,c8,c9⟩:=he.cells;have jj:=HG.gl;by_cases cd:k<E.gaps.length
  ·have i8:S.size<=903296+206*64:=by
    have h1:=Oh (Dj E) E.gaps k 8 jj (fun x hx=>Om HG hx);have h2:=HLen.out;rw[dsize,hS.out,R2];omega
   have cq:=G (Mx (Dj E) E.gaps k cd);obtain⟨xb,xo,rfl,k1,k3,db⟩:=Ag6 he.sl.g (by omega);obtain⟨r0,r1,r2,r3⟩:=db k cd;obtain⟨x,hx⟩:∃x,x=E.gaps[k]:=⟨_,rfl⟩
   have dk:=HG.gs E.gaps[k] (M2 cd);rw[<-hx]at r0 r1 r2 r3 cq dk;obtain⟨⟨i3,i4⟩,⟨i5,i6⟩,q,b8,t⟩:=dk;obtain⟨j1,cb⟩:∃j:Nat,x.fr=(j:Int):=⟨x.fr.toNat,by omega⟩
   obtain⟨j2,cc⟩:∃j:Nat,x.dst=(j:Int):=⟨x.dst.toNat,by omega⟩
   have ce:j1<E.points.length:=by omega
   have cf:j2<E.points.length:=by omega
   obtain⟨pb,po,rfl,k0,dh,b9⟩:=E8 he.sl.p (by omega);have q1:=b9 j1 ce;have q2:=b9 j2 cf;have jl:=HG.ps _ (M2 ce);have jm:=HG.ps _ (M2 cf);have d:=G (Aja E x);rw[Ng cb ce,Ng cc cf]at d;obtain⟨v1,di⟩:∃v,v=x.mn:=⟨_,rfl⟩
   obtain⟨v2,dj⟩:∃v,v=x.mx:=⟨_,rfl⟩
   rw[<-di]at r2 d q b8;rw[<-dj]at r3 d b8 t;obtain⟨s1,H⟩:∃s,s=E.points[j1]:=⟨_,rfl⟩
   obtain⟨s2,K⟩:∃s,s=E.points[j2]:=⟨_,rfl⟩
   rw[<-H]at q1 jl d;rw[<-K]at q2 jm d;rw[cb]at r0;rw[cc]at r1;have cn:=G (fun W=>Dm v1 q (by omega) W);have co:=G (fun W=>Dm v2 (by omega) t W);have dl:=Kn v1 q (by omega);have dm:=Kn v2 (by omega) t;obtain⟨n1,u⟩:∃n,n=B6 (Lib.itoa v1):=⟨_,rfl⟩
   obtain⟨n2,y⟩:∃n,n=B6 (Lib.itoa v2):=⟨_,rfl⟩
   rw[<-u]at cn;rw[<-y]at co;have jn:n1.size<=40:=by rw[u,Dx];exact dl
   have jo:n2.size<=40:=by rw[y,Dx];exact dm
   have dc:Lib.itoa v1=n1.data.toList:=by rw[u,Cw]
   have dd:Lib.itoa v2=n2.data.toList:=by rw[y,Cw]
   rw[dc,dd]at d;obtain⟨T0,cr,il,i9⟩:=Bh (P:=ZI) S ⟨#[103,97,112,32]⟩ (by have:=(show(⟨#[103,97,112,32]⟩:ByteArray).size=4 from rfl);omega);rw[(show(⟨#[103,97,112,32]⟩:ByteArray).size=4 from rfl)]at il;obtain⟨T1,cs,j7,ja⟩:=Bh (P:=ZI) T0 s1 (by omega);obtain⟨T2,ct,im,jb⟩:=Bh (P:=ZI) T1 ⟨#[32]⟩ (by have:=(show(⟨#[32]⟩:ByteArray).size=1 from rfl);omega);rw[(show(⟨#[32]⟩:ByteArray).size=1 from rfl)]at im;obtain⟨T3,cu,j8,jc⟩:=Bh (P:=ZI) T2 s2 (by omega);obtain⟨T4,cv,io,jd⟩:=Bh (P:=ZI) T3 ⟨#[32]⟩ (by have:=(show(⟨#[32]⟩:ByteArray).size=1 from rfl);omega);rw[(show(⟨#[32]⟩:ByteArray).size=1 from rfl)]at io;obtain⟨T5,cw,j9,je⟩:=Bh (P:=ZI) T4 n1 (by omega);obtain⟨T6,cx,ip,jf⟩:=Bh (P:=ZI) T5 ⟨#[32]⟩ (by have:=(show(⟨#[32]⟩:ByteArray).size=1 from rfl);omega);rw[(show(⟨#[32]⟩:ByteArray).size=1 from rfl)]at ip;obtain⟨T7,cy,ka,jg⟩:=Bh (P:=ZI) T6 n2 (by omega);obtain⟨T8,cz,kb,jh⟩:=Bh (P:=ZI) T7 ⟨#[10]⟩ (by have:=(show(⟨#[10]⟩:ByteArray).size=1 from rfl);omega);clear b9 db hx H K i3 i4 i5 i6 cb cc u y dl dm jn jo dc dd q b8 t di dj;have jk:ZG (T8.data.toList=l++Ai ((E.gaps.take (k+1)).map (Dj E))):=G (by
    rw[cq.out,d.out,<-F6,<-hS.out];rw[cz,cy,cx,cw,cv,cu,ct,cs,cr];simp)
   clear cr il cs j7 ct im cu j8 cv io cw j9 cx ip cy ka cz kb i8;go_upto_region 17 with fail;have m:=Ab wr (ZC #[I J (j1:Int),I J (j2:Int),I J v1,I J v2] 126);have a:ZF wr.heap.size wr (wr.alloc (ZC #[I J (j1:Int),I J (j2:Int),I J v1,I J v2] 126)):=(R1 _ _).alloc (Y2 _) _;have A:pb<wr.heap.size:=dh;have ca:f<wr.heap.size:=Aa he.box;rw[<-a.cell (p:=⟨f,2,O⟩) ca]at c2;rw[<-a.cell (p:=⟨pb,po+j1,O⟩) A]at q1;rw[<-a.cell (p:=⟨pb,po+j2,O⟩) A]at q2;generalize wr.alloc _=wg at m a c2 q1 q2 ⊢;obtain⟨gb,de⟩:∃gb,gb=wr.heap.size:=⟨_,rfl⟩
   rw[<-de]at m ⊢;have df:=Aa m;have D:=F5 A a.size;have B:=F5 ca a.size;obtain⟨g0,g1,g2,g3⟩:=Ay m;have cm:=G a;have iu:=G (fun W (hW:ZF wg.heap.size wg W)=>(cn W).mono (R':=fun e w'=>e=ZD (ZB n1)/\ZF wg.heap.size wg w') (fun e w' h=>⟨h.1,hW.trans (h.2.mono hW.size)⟩));have iv:=G (fun W (hW:ZF wg.heap.size wg W)=>(co W).mono (R':=fun e w'=>e=ZD (ZB n2)/\ZF wg.heap.size wg w') (fun e w' h=>⟨h.1,hW.trans (h.2.mono hW.size)⟩));clear de m a A ca c0 c1 c3 c4 c5 c6 c7 c8 c9 r0 r1 r2 r3 dh;go_region_held3 (fun w'=>(∀o,w'.cell? ⟨f,o,O⟩=wg.cell? ⟨f,o,O⟩)/\(∀o,w'.cell? ⟨gb,o,O⟩=wg.cell? ⟨gb,o,O⟩)/\(∀o,w'.cell? ⟨pb,o,O⟩=wg.cell? ⟨pb,o,O⟩))
    (first|exact⟨fun _=>rfl,fun _=>rfl,fun _=>rfl⟩|exact⟨fun o=>d2.cell (p:=⟨f,o,O⟩) B,fun o=>d2.cell (p:=⟨gb,o,O⟩) df,fun o=>d2.cell (p:=⟨pb,o,O⟩) D⟩|exact⟨fun o=>d1.cell (p:=⟨f,o,O⟩) B,fun o=>d1.cell (p:=⟨gb,o,O⟩) df,fun o=>d1.cell (p:=⟨pb,o,O⟩) D⟩)
    (first|(go_at_call_of 56 (Value.int J v1);refine(iu _ ?_).mono ?_;(repeat(first|exact R1 _ _|refine H5 ?_));rintro e wA ⟨rfl,d1⟩)|(go_at_call_of 56 (Value.int J v2);refine(iv _ ?_).mono ?_;(repeat(first|exact d1|refine H5 ?_));rintro e wB ⟨rfl,d2⟩))
   have iw:=G (he.below (cm.trans (d2.mono cm.size)));go_wp2_with fail;go_roundw;case rel=>exact⟨k+1,T8,by omega,rfl,by go_num,jk,iw⟩
   case measure=>simp[intOf];omega
  ·have dg:k=E.gaps.length:=by omega
   have ix:ZG (S.data.toList=l++Ai (E.gaps.map (Dj E))):=G (by rw[hS.out,dg,Zz2]);clear dg;go_wp2_with fail;exact HEXIT _ _ _ _ _ _ _ _ _ _ _ _ _ _ _ _ _ _ _ _ _ _ _ _ _ _ _ _ _ _ _ _ _ _ _ _ _ _ _ _ _ _ _ _ ix he.out
theorem yZ(w:V):ZH ZI 13 #[I J 1] w fun e w'=>e=ZD (ZB (He 1))/\ZF w.heap.size w w':=by
 have a:=fun o=>((R1 w.heap.size w).alloc (Y2 _) o:ZF w.heap.size w (w.alloc o))
 go_enter func13,ntmps13;go_wp2_with fail;go_ret;exact⟨rfl,a _⟩
theorem yY(w:V):ZH ZI 13 #[I J 2] w fun e w'=>e=ZD (ZB (He 2))/\ZF w.heap.size w w':=by
 have a:=fun o=>((R1 w.heap.size w).alloc (Y2 _) o:ZF w.heap.size w (w.alloc o))
 go_enter func13,ntmps13;go_wp2_with fail;go_ret;exact⟨rfl,a _⟩
theorem yX(w:V):ZH ZI 13 #[I J 3] w fun e w'=>e=ZD (ZB (He 3))/\ZF w.heap.size w w':=by
 have a:=fun o=>((R1 w.heap.size w).alloc (Y2 _) o:ZF w.heap.size w (w.alloc o))
 go_enter func13,ntmps13;go_wp2_with fail;go_ret;exact⟨rfl,a _⟩
theorem yW(w:V):ZH ZI 13 #[I J 4] w fun e w'=>e=ZD (ZB (He 4))/\ZF w.heap.size w w':=by
 have a:=fun o=>((R1 w.heap.size w).alloc (Y2 _) o:ZF w.heap.size w (w.alloc o))
 go_enter func13,ntmps13;go_wp2_with fail;go_ret;exact⟨rfl,a _⟩
theorem Ws(w:V):ZH ZI 13 #[I J 5] w fun e w'=>e=ZD (ZB (He 5))/\ZF w.heap.size w w':=by
 have a:=fun o=>((R1 w.heap.size w).alloc (Y2 _) o:ZF w.heap.size w (w.alloc o))
 go_enter func13,ntmps13;go_wp2_with fail;go_ret;exact⟨rfl,a _⟩
theorem yV(w:V):ZH ZI 13 #[I J 6] w fun e w'=>e=ZD (ZB (He 6))/\ZF w.heap.size w w':=by
 have a:=fun o=>((R1 w.heap.size w).alloc (Y2 _) o:ZF w.heap.size w (w.alloc o))
 go_enter func13,ntmps13;go_wp2_with fail;go_ret;exact⟨rfl,a _⟩
theorem yU(w:V):ZH ZI 13 #[I J 7] w fun e w'=>e=ZD (ZB (He 7))/\ZF w.heap.size w w':=by
 have a:=fun o=>((R1 w.heap.size w).alloc (Y2 _) o:ZF w.heap.size w (w.alloc o))
 go_enter func13,ntmps13;go_wp2_with fail;go_ret;exact⟨rfl,a _⟩
theorem yT(w:V):ZH ZI 13 #[I J 8] w fun e w'=>e=ZD (ZB (He 8))/\ZF w.heap.size w w':=by
 have a:=fun o=>((R1 w.heap.size w).alloc (Y2 _) o:ZF w.heap.size w (w.alloc o))
 go_enter func13,ntmps13;go_wp2_with fail;go_ret;exact⟨rfl,a _⟩
theorem yS(w:V):ZH ZI 13 #[I J 9] w fun e w'=>e=ZD (ZB (He 9))/\ZF w.heap.size w w':=by
 have a:=fun o=>((R1 w.heap.size w).alloc (Y2 _) o:ZF w.heap.size w (w.alloc o))
 go_enter func13,ntmps13;go_wp2_with fail;go_ret;exact⟨rfl,a _⟩
theorem yR(w:V):ZH ZI 13 #[I J 10] w fun e w'=>e=ZD (ZB (He 10))/\ZF w.heap.size w w':=by
 have a:=fun o=>((R1 w.heap.size w).alloc (Y2 _) o:ZF w.heap.size w (w.alloc o))
 go_enter func13,ntmps13;go_wp2_with fail;go_ret;exact⟨rfl,a _⟩
theorem tE(w:V):ZH ZI 13 #[I J 11] w fun e w'=>e=ZD (ZB (He 11))/\ZF w.heap.size w w':=by
 have a:=fun o=>((R1 w.heap.size w).alloc (Y2 _) o:ZF w.heap.size w (w.alloc o))
 go_enter func13,ntmps13;go_wp2_with fail;go_ret;exact⟨rfl,a _⟩
theorem kB(j:Nat)(a:j<11)(w:V):ZH ZI 13 #[I J ((j+1:Nat):Int)] w fun e w'=>e=ZD (ZB (He (j+1)))/\ZF w.heap.size w w':=by
 match j,a with
 |0,_=>exact yZ w
 |1,_=>exact yY w
 |2,_=>exact yX w
 |3,_=>exact yW w
 |4,_=>exact Ws w
 |5,_=>exact yV w
 |6,_=>exact yU w
 |7,_=>exact yT w
 |8,_=>exact yS w
 |9,_=>exact yR w
 |10,_=>exact tE w
theorem Aiw(e:Nat)(i:e<=11)(w:V):ZH ZI 62 #[I J e] w fun x w'=>x=ZD (ZB (if e=0 then okS else He e))/\ZF w.heap.size w w':=by
 cases e with
 |zero=>
  go_enter func62,ntmps62;go_wp2_with fail;go_ret;exact⟨rfl,R1 _ _⟩
 |succ j=>
  have a:=G (kB j (by omega) w);have f:(0:Int)<((j+1:Nat):Int):=by omega
  rw[if_neg (Zzp j)];generalize j+1=q at a f ⊢;go_enter func62,ntmps62;go_wp2_with fail;refine a.mono ?_;rintro x w1 ⟨rfl,d⟩;go_wp2_with fail;go_ret;exact⟨rfl,d⟩
theorem rY(n:Nat)(h1:n<=281474976710656)(w:V):ZH ZI 56 #[I J n] w fun e w'=>e=ZD (ZB (B6 (Lib.itoa n)))/\(B6 (Lib.itoa n)).size<=15/\ZF w.heap.size w w':=by
 have a:n<10 ^ 15:=Zxs h1 (by decide);have d:=G (Yd 15 n w a (by omega) (by decide) (by decide));rw[Yw];have l:wrap64 (-(n:Int))= -(n:Int):=Zy2 _ (by omega);clear h1 a;go_enter func56,ntmps56;go_wp2_with fail;refine d.mono ?_;rintro e m ⟨rfl,i,f⟩;have j:(B6 (Lib.decDigits n)).size<=15:=by rw[Dx];exact i
 go_wp2_with fail;go_ret;exact⟨rfl,j,f⟩
theorem J6(n:Nat)(h1:n<=281474976710656):(B6 (Lib.itoa n)).size<=40:=by
 rw[Dx,Yw];exact No (M9 (k:=15) (Zxs h1 (by decide)) (by decide)) (by decide)
theorem Xw(r:Ap):C5 r=(((Lib.itoa r.seq++ [32])++Lib.itoa r.ent++ [32])++Lib.itoa r.kind++ [32])++Lib.itoa r.tick:=by
 unfold C5;rw[Lib.join_cons];simp[Lib.joinTail]
theorem Wg(r:Ap)(Z:Kv r)(w:V):ZH ZI 70 #[.agg #[I J r.seq,I J r.ent,I J r.kind,I J r.tick]] w fun e w'=>e=ZD (ZB (B6 (C5 r)))/\ZF w.heap.size w w':=by
 have hs:=Z.s2;have he:=Z.e;have hk:=Z.k;have ht:=Z.t;have a:ZF w.heap.size w (w.alloc (ZC #[I J r.seq,I J r.ent,I J r.kind,I J r.tick] 147)):=(R1 _ _).alloc (Y2 _) _;have L:=Ab w (ZC #[I J r.seq,I J r.ent,I J r.kind,I J r.tick] 147);have H:=Aa L;obtain⟨c0,c1,c2,c3⟩:=Ay L;obtain⟨w1,l⟩:∃w1,w1=w.alloc (ZC #[I J r.seq,I J r.ent,I J r.kind,I J r.tick] 147):=⟨_,rfl⟩
 have N:∀n:Nat,n<=281474976710656->ZG (∀W,ZF w1.heap.size w1 W->ZH ZI 56 #[I J n] W fun e w'=>e=ZD (ZB (B6 (Lib.itoa n)))/\ZF w1.heap.size w1 w'):=fun n hn W hW=>(rY n hn W).mono (fun e w' h=>⟨h.1,hW.trans (h.2.2.mono hW.size)⟩);have m:=N r.seq (by omega);have u:=N r.ent (by omega);have y:=N r.kind (by omega);have A:=N r.tick (by omega);have z1:=J6 r.seq (by omega);have z2:=J6 r.ent (by omega);have z3:=J6 r.kind (by omega);have z4:=J6 r.tick (by omega);have aa:=Xw r;obtain⟨n1,B⟩:∃n,n=B6 (Lib.itoa r.seq):=⟨_,rfl⟩
 obtain⟨n2,C⟩:∃n,n=B6 (Lib.itoa r.ent):=⟨_,rfl⟩
 obtain⟨n3,D⟩:∃n,n=B6 (Lib.itoa r.kind):=⟨_,rfl⟩
 obtain⟨n4,E⟩:∃n,n=B6 (Lib.itoa r.tick):=⟨_,rfl⟩
 rw[<-B]at m z1;rw[<-C]at u z2;rw[<-D]at y z3;rw[<-E]at A z4;obtain⟨T0,Q,ab,ag⟩:=Bh (P:=ZI) n1 ⟨#[32]⟩ (by have:=(show(⟨#[32]⟩:ByteArray).size=1 from rfl);omega);rw[(show(⟨#[32]⟩:ByteArray).size=1 from rfl)]at ab;obtain⟨T1,R,am,ah⟩:=Bh (P:=ZI) T0 n2 (by omega);obtain⟨T2,S,ac,ai⟩:=Bh (P:=ZI) T1 ⟨#[32]⟩ (by have:=(show(⟨#[32]⟩:ByteArray).size=1 from rfl);omega);rw[(show(⟨#[32]⟩:ByteArray).size=1 from rfl)]at ac;obtain⟨T3,T,an,aj⟩:=Bh (P:=ZI) T2 n3 (by omega);obtain⟨T4,X,ad,ak⟩:=Bh (P:=ZI) T3 ⟨#[32]⟩ (by have:=(show(⟨#[32]⟩:ByteArray).size=1 from rfl);omega);rw[(show(⟨#[32]⟩:ByteArray).size=1 from rfl)]at ad;obtain⟨T5,Y,ao,al⟩:=Bh (P:=ZI) T4 n4 (by omega);have HT:ZG (T5=B6 (C5 r)):=G (by
  apply Zx4;apply Array.toList_inj.1;rw[Cw,aa,Y,X,T,S,R,Q,B,C,D,E,Cw,Cw,Cw,Cw])
 obtain⟨v1,d⟩:∃v:Int,v=(r.seq:Int):=⟨_,rfl⟩
 obtain⟨v2,f⟩:∃v:Int,v=(r.ent:Int):=⟨_,rfl⟩
 obtain⟨v3,i⟩:∃v:Int,v=(r.kind:Int):=⟨_,rfl⟩
 obtain⟨v4,j⟩:∃v:Int,v=(r.tick:Int):=⟨_,rfl⟩
 rw[<-d]at m;rw[<-f]at u;rw[<-i]at y;rw[<-j]at A;rw[<-d,<-f,<-i,<-j]at a l c0 c1 c2 c3 H;rw[<-l]at c0 c1 c2 c3 H a;rw[<-HT.out,<-d,<-f,<-i,<-j];clear Z hs he hk ht L N z1 z2 z3 z4 aa B C D E Q ab R am S ac T an X ad Y ao d f i j;go_enter func70,ntmps70;go_upto_region 1 with fail;rw[<-l];clear l;obtain⟨q,K⟩:∃q,q=w.heap.size:=⟨_,rfl⟩
 rw[<-K]at c0 c1 c2 c3 H ⊢;have M:=G a;have a9:=G K;clear a K;go_region_held3 (fun w'=>∀o,w'.cell? ⟨q,o,O⟩=w1.cell? ⟨q,o,O⟩)
  (first|exact fun _=>rfl|exact fun o=>e4.cell (p:=⟨q,o,O⟩) H|exact fun o=>e3.cell (p:=⟨q,o,O⟩) H|exact fun o=>e2.cell (p:=⟨q,o,O⟩) H|exact fun o=>e1.cell (p:=⟨q,o,O⟩) H)
  (first|(go_at_call_of 56 (Value.int J v1);refine(m _ ?_).mono ?_;(repeat(first|exact R1 _ _|refine H5 ?_));rintro e bk ⟨rfl,e1⟩)|(go_at_call_of 56 (Value.int J v2);refine(u _ ?_).mono ?_;(repeat(first|exact e1|refine H5 ?_));rintro e bl ⟨rfl,e2⟩)|(go_at_call_of 56 (Value.int J v3);refine(y _ ?_).mono ?_;(repeat(first|exact e2|refine H5 ?_));rintro e bm ⟨rfl,e3⟩)|(go_at_call_of 56 (Value.int J v4);refine(A _ ?_).mono ?_;(repeat(first|exact e3|refine H5 ?_));rintro e bn ⟨rfl,e4⟩))
 all_goals
  go_wp2_with fail;go_ret;have hB:=M.trans (e4.mono M.size);exact⟨rfl,hB⟩
theorem Abq(l:List UInt8)(c:UInt8):Mu (l++ [c])=Mu l++(if c=10 then [59,32] else [c]):=by simp[Mu]
def Aao(s:ByteArray)(i:Nat)(ZP:ByteArray):Prop:=ZP.data.toList=Mu (s.data.toList.take i)/\ZP.size<=2*i
theorem Yi{s a:ByteArray}{i:Nat}{P:ByteArray}(h:Aao s i a)(hi:i<s.size)(d:P.data.toList=if s[i]=10 then [59,32] else [s[i]]):Aao s (i+1) (a++P):=by
 have j:P.size<=2:=by
  have:P.size=P.data.toList.length:=by rw[C2];rfl
  rw[this,d];split<;>simp
 refine⟨?_,by rw[Zzn];have:=h.2;omega⟩;have f:i<s.data.toList.length:=by rw[C2];exact hi
 have e:s.data.toList[i]=s[i]:=by rw[Array.getElem_toList];rfl
 rw[Zzy,Zzq,h.1,d,If f,e,Abq]
theorem wU(s:ByteArray)(h1:1<=s.size)(Q:s.size<=100000)(w:V):ZH ZI 69 #[ZB s] w fun e w'=>e=ZD (ZB (B6 (Mu (s.data.toList.take (s.size-1)))))/\ZF w.heap.size w w':=by
 have u:ZG (Aao s 0 ⟨#[]⟩):=G (⟨rfl,Y2 _⟩);go_enter func69,ntmps69;go_wp2_with fail;go_loopw [3,4] (fun K t L=>∃(j:Nat) (W:ByteArray),j<=s.size-1/\W.size<=2*j/\K=ZB W/\t=I J j/\ZG (ZF w.heap.size w L)/\ZG (Aao s j W)) (fun _ t _=>s.size-1-(intOf t).toNat);case atStart=>exact⟨0,⟨#[]⟩,In _,Y2 _,rfl,rfl,G (R1 _ _),u⟩
 case round=>
  obtain⟨j,W,N,B,rfl,rfl,o,m⟩:=hrel;clear u;by_cases C:j+1<s.size
  ·have q:(j:Int)+1<(s.size:Int):=by omega
   have i:j<s.size:=by omega
   have v:(j:Int)<(s.size:Int):=by omega
   by_cases l:s[j]=10
   ·have p:((s[j].toNat:Int)==10)=true:=by rw[l];rfl
    have a:=G (Yi (P:=⟨#[59,32]⟩) m i (by rw[if_pos l]));have H:(⟨#[59,32]⟩:ByteArray).size=2:=rfl;have f:ZG ((W++(⟨#[59,32]⟩:ByteArray)).size<=2*(j+1)):=a.2;have d:ZG (j+1<=s.size-1):=G (by omega);have hmes:ZG (s.size-1-(j+1)<s.size-1-j):=G (by omega);clear m l;go_wp2_with fail;go_roundw;case rel=>exact⟨j+1,_,d.out,f.out,rfl,by go_num,o,a⟩
    case measure=>simp[intOf];have:=hmes.out;omega
   ·have p:((s[j].toNat:Int)==10)=false:=by
     rw[Zzg];intro e;apply l;have A:s[j].toNat=10:=by omega
     exact UInt8.toNat_inj.1 A
    have a:=G (Yi (P:=s.extract j (j+1)) m i (by
     rw[if_neg l,Zyj,Zye];have D:j<s.data.toList.length:=by rw[C2];exact i
     rw[List.extract_eq_take_drop,show j+1-j=1 by omega,Zy3 D];simp;rfl))
    have E:(s.extract j (j+1)).size=1:=by rw[ByteArray.size_extract];omega
    have f:ZG ((W++s.extract j (j+1)).size<=2*(j+1)):=a.2;have c1:(0:Int)<=(j:Int):=by omega
    have M:(j:Int)+1<=(s.size:Int):=by omega
    have d:ZG (j+1<=s.size-1):=G (by omega);have hmes:ZG (s.size-1-(j+1)<s.size-1-j):=G (by omega);clear m l;go_wp2_with fail;go_roundw;case rel=>exact⟨j+1,W++s.extract j (j+1),d.out,f.out,rfl,by go_num,o,a⟩
    case measure=>simp[intOf];have:=hmes.out;omega
  ·have q:¬(j:Int)+1<(s.size:Int):=by omega
   have n:j=s.size-1:=by omega
   have y:ZG (W=B6 (Mu (s.data.toList.take (s.size-1)))):=G (by
    apply Zx4;apply Array.toList_inj.1;rw[Cw,m.1,n])
   clear n;go_wp2_with fail;go_ret;rw[y.out];exact⟨rfl,o.out⟩
theorem Vg(c:UInt8)(l:List UInt8):Mu (c::l)=(if c=10 then [59,32] else [c])++Mu l:=by simp[Mu]
theorem Vf:∀d:List UInt8,d.count 10=0->Mu d=d
 |[],_=>rfl
 |c::l,h=>by
  have hc:c≠10:=fun e=>by subst e;simp at h
  rw[List.count_cons_of_ne (by simpa using hc)]at h
  rw[Vg,if_neg hc,Vf l h];rfl
theorem wJ:∀d:List UInt8,0<d.count 10->∃j:Nat,Lib.indexByte d 10=(j:Int)/\j<d.length/\Mu d=d.take j++ [59,32]++Mu (d.drop (j+1))/\d.count 10=(d.drop (j+1)).count 10+1
 |[],h=>by simp at h
 |c::l,h=>by
  by_cases hc:c=10
  ·subst hc
   exact⟨0,by simp[Lib.indexByte],by simp,by rw[Vg];simp,by simp⟩
  ·rw[List.count_cons_of_ne (by simpa using hc)]at h
   obtain⟨j,h1,h2,h3,h4⟩:=wJ l h
   refine⟨j+1,?_,by simp;omega,?_,?_⟩
   ·unfold Lib.indexByte
    have a:(c==(10:UInt8))=false:=by simpa using hc
    rw[a,h1]
    have e:((j:Int)== -1)=false:=beq_eq_false_iff_ne.2 (by omega)
    simp[e]
   ·rw[Vg,if_neg hc,h3];simp
   ·rw[List.count_cons_of_ne (by simpa using hc),h4];simp
structure Ri (w:V) (s:ByteArray) (start g:Nat) (acc:List UInt8) (wx:V):Prop where
 bl:Lib.IsBuilder 121 5 w.heap.size w.heap.size (Lib.byteCells acc) wx
 bel:ZF w.heap.size w wx
 out:acc++Mu (s.data.toList.drop start)=Mu s.data.toList
 cnt:(s.data.toList.drop start).count 10=g
 st:start<=s.size
 len:acc.length<=2*start
theorem Ri.one{w wx:V}{s:ByteArray}{start g:Nat}{acc:List UInt8}(h:Ri w s start (g+1) acc wx):∃j:Nat,Lib.indexByte (s.data.toList.drop start) 10=(j:Int)/\start+j<s.size/\
  (∀w',Lib.BuilderAt 121 5 w.heap.size w.heap.size (ZA (U ⟨w.heap.size,0,O⟩)) (Lib.byteCells acc++Lib.strCells (s.extract start (start+j))++Lib.strCells ⟨#[59,32]⟩) w'->ZF w.heap.size w w'->∃acc',Ri w s (start+j+1) g acc' w'):=by
 obtain⟨j,h1,h2,h3,d⟩:=wJ (s.data.toList.drop start) (by rw[h.cnt];omega);have a:s.data.toList.length=s.size:=by rw[C2];rfl
 rw[B2,a]at h2;have i:=h.st;refine⟨j,h1,by omega,fun w' f l=>⟨acc++(s.data.toList.drop start).take j++ [59,32],.inr ?_,l,?_,?_,by omega,?_⟩⟩
 ·have e:Lib.byteCells (acc++(s.data.toList.drop start).take j++ [59,32])=Lib.byteCells acc++Lib.strCells (s.extract start (start+j))++Lib.strCells ⟨#[59,32]⟩:=by
   rw[Lib.strCells_eq,Lib.strCells_eq,Lib.extract_data,Nat.add_sub_cancel_left,<-Zyf,<-Zyf]
  rw[e];exact f
 ·rw[<-h.out,h3,Zyd];simp only[F6,Zzm]
 ·have:=h.cnt;rw[d,Zyd]at this;rw[show start+j+1=start+(j+1)by omega];omega
 ·have:=h.len;simp only[R2,By,B2,Zz7,Zyy];omega
theorem Anq:(⟨#[59,32]⟩:ByteArray).size=2:=rfl
theorem Zt(B b:Nat)(bs:List ZE)(s:ByteArray)(w:V)(h:Lib.IsBuilder 121 5 B b bs w)(a:bs.length+s.size<=140737488355328)(d:B<=w.heap.size):
  ZH ZI 99 #[ZA (U ⟨b,0,O⟩),ZB s] w fun e w'=>e=ZD (.tuple #[I J s.size,.nilIface])/\(Lib.BuilderAt 121 5 B b (ZA (U ⟨b,0,O⟩)) (bs++Lib.strCells s) w'/\ZF B w w'):=
 Any.Builder_WriteString { lays154 with} Builder_Extra_154 B b bs s w h a d
theorem qW(n:Nat)(h:n<=1000000):wrap64 (n:Int)=(n:Int):=by unfold wrap64;omega
section
variable {w wx:V} {s:ByteArray} {start g:Nat} {acc:List UInt8}
theorem Ri.small(h:Ri w s start g acc wx)(a:s.size<=100000)(b:Nat):(Lib.byteCells acc).length+(s.extract start b).size<=300000:=by
 have h1:=h.len;have h2:=h.st;have h3:(s.extract start b).size<=100000:=by rw[ByteArray.size_extract];omega
 rw[Zyr];omega
theorem Ri.wr1(h:Ri w s start g acc wx)(a:s.size<=100000)(b:Nat):
  ZH ZI 99 #[ZA (U ⟨w.heap.size,0,O⟩),ZB (s.extract start b)] wx fun e w'=>e=ZD (.tuple #[I J (s.extract start b).size,.nilIface])/\(Lib.BuilderAt 121 5 w.heap.size w.heap.size (ZA (U ⟨w.heap.size,0,O⟩)) (Lib.byteCells acc++Lib.strCells (s.extract start b)) w'/\ZF w.heap.size wx w'):=
 Zt _ _ _ _ _ h.bl (No (h.small a b) (by decide)) h.bel.size
theorem Ri.wr2(h:Ri w s start g acc wx)(f:s.size<=100000)(b:Nat)(w3:V)(a:Lib.BuilderAt 121 5 w.heap.size w.heap.size (ZA (U ⟨w.heap.size,0,O⟩)) (Lib.byteCells acc++Lib.strCells (s.extract start b)) w3)(d:w.heap.size<=w3.heap.size):
  ZH ZI 99 #[ZA (U ⟨w.heap.size,0,O⟩),ZB ⟨#[59,32]⟩] w3 fun e w'=>e=ZD (.tuple #[I J 2,.nilIface])/\(Lib.BuilderAt 121 5 w.heap.size w.heap.size (ZA (U ⟨w.heap.size,0,O⟩)) (Lib.byteCells acc++Lib.strCells (s.extract start b)++Lib.strCells ⟨#[59,32]⟩) w'/\ZF w.heap.size w3 w'):=by
 have h2:=h.small f b;have h3:(Lib.byteCells acc++Lib.strCells (s.extract start b)).length+(⟨#[59,32]⟩:ByteArray).size<=300002:=by
  rw[R2,Lib.strCells_length,Anq];omega
 have:=Zt w.heap.size w.heap.size _ ⟨#[59,32]⟩ w3 (.inr a) (No h3 (by decide)) d;rw[Anq]at this;exact this
end
theorem Z4(s:ByteArray)(w:V)(hs:s.size<=100000):
  ZH ZI 192 #[ZB s,ZB ⟨#[10]⟩,ZB ⟨#[59,32]⟩,I J (-1)] w fun e w'=>e=ZD (ZB (B6 (Mu s.data.toList)))/\ZF w.heap.size w w':=by
 have HC:=G (Tryz.strings_Count_one s 10 w);obtain⟨K,M⟩:∃K:Nat,K=Lib.countByte s.data.toList 10:=⟨_,rfl⟩
 rw[<-M]at HC;have p:s.data.toList.length=s.size:=by rw[C2];rfl
 have t:K<=s.size:=by
  rw[M,<-p];exact List.count_le_length
 have u:=G (show s.data.toList.count 10=K from M.symm);by_cases h0:K=0
 ·subst h0;have HR:=G (show B6 (Mu s.data.toList)=s from by rw[Vf _ u.out];exact Ald s);clear M t u p;go_enter func192,ntmps192;go_wp2_with fail;refine HC.mono ?_;rintro e w1 ⟨rfl,rfl⟩;go_wp2_with fail;go_ret;refine⟨?_,R1 _ _⟩;rw[HR.out];rfl
 ·have az:((K:Int)==0)=false:=beq_eq_false_iff_ne.2 (by omega);have hS:=G hs;have af:=G t;have au:=G p;have HG:=G (fun W hb hB=>Tryz.Builder_Grow_fresh w.heap.size w.heap.size (s.size+K) W (Y2 _) hb hB (by omega));have T:wrap64 ((s.size:Int)+wrap64 (K:Int))=((s.size+K:Nat):Int):=by
   unfold wrap64;omega
  clear M h0 hs t p;go_enter func192,ntmps192;go_wp2_with fail;refine HC.mono ?_;rintro e w1 ⟨rfl,rfl⟩;clear HC;go_wp2_with fail;rw[T];refine(HG _ (heap_alloc_new _ _) (by simp)).mono ?_;rintro e w2 ⟨rfl,N,f⟩;have Z:Ri w1 s 0 K [] w2:=⟨.inr N,((R1 w1.heap.size w1).alloc (Y2 _) _).trans f,by simp,by rw[Zx8];exact u.out,In _,by simp⟩
  have B:=G Z;clear N f Z T HG;go_wp2_with fail;go_loopw [11,53] (fun aj v wx=>∃(i start g:Nat) (acc:List UInt8),v=I J i/\aj=I J start/\i+g=K/\ZG (Ri w1 s start g acc wx)) (fun _ v _=>K-(intOf v).toNat);case atStart=>exact⟨0,0,K,[],rfl,rfl,by omega,B⟩
  case round=>
   obtain⟨i,start,g,acc,rfl,rfl,a0,d⟩:=hrel;clear B;have L:w1.heap.size<=wr.heap.size:=d.bel.size;have X:=d.st;have c1:(0:Int)<=(start:Int):=by omega
   have c2:(start:Int)<=(s.size:Int):=by omega
   have q:=d.len;have m:=hS.out;cases g with
   |zero=>
    have ag:¬((i:Int)<(K:Int)):=by omega
    have C:=G (d.wr1 m s.size);have HF:ZG (Lib.byteCells acc++Lib.strCells (s.extract start s.size)=Lib.byteCells (Mu s.data.toList)):=G (by
     rw[Lib.strCells_eq,Lib.extract_to_end,<-Zyf,<-d.out.out,Vf _ d.cnt])
    have o:=G d.bel;clear d q X m;go_wp2_with fail;refine C.mono ?_;rintro e w3 ⟨rfl,h3,a⟩;rw[HF.out]at h3;have ae:=G (Tryz.Builder_String_any w1.heap.size w1.heap.size _ w3 (.inr h3) (No L a.size));have n:=G (o.trans a);clear h3 a C HF;go_wp2_with fail;refine ae.mono ?_;rintro e w4 ⟨rfl,l⟩;have ad:=G (n.trans l);clear l;go_wp2_with fail;go_ret;exact⟨rfl,ad.out⟩
   |succ g=>
    have ag:(i:Int)<(K:Int):=by omega
    obtain⟨j,hj,a1,Y⟩:=d.one;have y:=G (Tryz.strings_Index_one (s.extract start s.size) 10 wr);rw[Lib.extract_to_end,hj]at y;have c3:(start:Int)<=(start:Int)+(j:Int):=by omega
    have c4:(start:Int)+(j:Int)<=(s.size:Int):=by omega
    have f:start+j<=1000000:=by omega
    have P:start+j+1<=1000000:=by omega
    have a:i+1<=1000000:=by have:=af.out;omega
    have Q:(start:Int)+(j:Int)=((start+j:Nat):Int):=by omega
    have R:(start:Int)+(j:Int)+1=((start+j+1:Nat):Int):=by omega
    have S:(i:Int)+1=((i+1:Nat):Int):=by omega
    have ah:wrap64 ((start:Int)+(j:Int))=((start+j:Nat):Int):=by rw[Q];exact qW _ f
    have ai:wrap64 ((start:Int)+(j:Int)+1)=((start+j+1:Nat):Int):=by rw[R];exact qW _ P
    have aa:wrap64 ((i:Int)+1)=((i+1:Nat):Int):=by rw[S];exact qW _ a
    clear f P a Q R S;have C:=G (d.wr1 m (start+j));have D:=G (fun w3 h3 hl=>d.wr2 m (start+j) w3 h3 hl);have A:=G Y;have o:=G d.bel;clear d q X m hj Y;go_wp2_with fail;refine y.mono ?_;rintro e wi ⟨rfl,rfl⟩;go_wp2_with fail;rw[ah];refine C.mono ?_;rintro e w3 ⟨rfl,h3,a⟩;have E:=G (D w3 h3 (No L a.size));have n:=G (o.trans a);clear h3 a C D;go_wp2_with fail;refine E.mono ?_;rintro e w4 ⟨rfl,h4,l⟩;obtain⟨H,hx⟩:=A w4 h4 (n.trans l);have HX:=G hx;clear h4 l hx E A n o;go_wp2_with fail;go_roundw;case rel=>exact⟨i+1,start+j+1,g,H,by rw[aa],by rw[ai],by omega,HX⟩
    case measure=>rw[aa];simp[intOf];omega
theorem Vb(s:ByteArray)(w:V)(a:s.size<=100000):
  ZH ZI 141 #[ZB s,ZB ⟨#[10]⟩,ZB ⟨#[59,32]⟩] w fun e w'=>e=ZD (ZB (B6 (Mu s.data.toList)))/\ZF w.heap.size w w':=by
 have d:=G (Z4 s w a);clear a;go_enter func141,ntmps141;go_wp2_with fail;refine d.mono ?_;rintro e w1 ⟨rfl,f⟩;go_wp2_with fail;go_ret;exact⟨rfl,f⟩
