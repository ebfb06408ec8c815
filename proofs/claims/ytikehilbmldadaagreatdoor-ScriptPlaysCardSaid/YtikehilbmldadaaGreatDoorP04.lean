import Derived.Test.YtikehilbmldadaaGreatDoorP03
import Derived.Deep.OwnRows
import Derived.Laws.IdiomStrings
import Derived.IntWalk
set_option maxHeartbeats 2000000
set_option maxRecDepth 20000
set_option linter.unusedVariables false
namespace Go.Proofs.YtikehilbmldadaaGreatDoor
open Proofs.Tryz YtikehilbmldadaaGreatDoor.Tryz RowKit
open Go renaming World->V,Calls->ZH,Value.int->I,IntKind.i64->J,Value.slice->F,Value.pointer->ZA,Value.string->ZB,Obj.cells->ZC,Ending.returned->ZD,Value.bool->ZK,Value.iface->ZL,Proofs.Tryz.prog->ZI
open Option renaming some->U,none->O
def errv(sa:Nat->Addr):Nat->Value
 |0=>.nilIface
 |k+1=>ZL 372 (ZA (U (sa k)))
def sg(k:Nat):Nat:=[1,0,2,3,4,5,6,7,8,9,10].getD k 0
structure Ii (B:Nat) (sa:Nat->Addr) (w:V):Prop where
 gl:∀k,k<11->w.cell? ⟨sg k,0,O⟩=U (errv sa (k+1))
 nd:∀i j,i<11->j<11->i≠j->sa i≠sa j
 bl:∀k,k<11->(sa k).block<B/\∃c t,w.heap[(sa k).block]? =U (ZC c t (0,0))
 et:w.cell? ⟨11,0,O⟩=U (ZL 283 (.agg #[ZA (U ⟨25,25,O⟩)]))
 nb:(∀k,k<11->sg k<B)/\11<B
 top:B<=w.heap.size
theorem Ii.mk'{a:Nat->Addr}{w:V}(gl:∀k,k<11->w.cell? ⟨sg k,0,O⟩=U (errv a (k+1)))(nd:∀i j,i<11->j<11->i≠j->a i≠a j)
  (bl:∀k,k<11->(a k).block<w.heap.size/\∃c t,w.heap[(a k).block]? =U (ZC c t (0,0))) (et:w.cell? ⟨11,0,O⟩=U (ZL 283 (.agg #[ZA (U ⟨25,25,O⟩)]))):Ii w.heap.size a w:=
 ⟨gl,nd,bl,et,⟨fun k d=>R3 _ ⟨sg k,0,O⟩ (gl k d),R3 _ ⟨11,0,O⟩ et⟩,Y2 _⟩
theorem Ii.keep{B:Nat}{f:Nat->Addr}{S:Nat->Prop}{w w':V}(h:Ii B f w)(k:Ac S w w')(d:∀b,S b->B<=b):Ii B f w':=by
 have e:=h.nb;have j:=h.top;refine⟨fun i hi=>?_,h.nd,fun i hi=>?_,?_,e,No j k.size⟩
 ·have:=e.1 i hi;rw[k.cell (p:=⟨sg i,0,O⟩) (show sg i<w.heap.size by omega) (fun a=>by have:=d _ a;simp only at this;omega)];exact h.gl i hi
 ·obtain⟨h1,c,t,h2⟩:=h.bl i hi;exact⟨h1,c,t,k.get h2 (fun a=>by have:=d _ a;omega)⟩
 ·have g:=e.2;rw[k.cell (p:=⟨11,0,O⟩) (show 11<w.heap.size by omega) (fun a=>by have:=d _ a;simp only at this;omega)];exact h.et
theorem Ii.below{B:Nat}{sa:Nat->Addr}{w w':V}(h:Ii B sa w)(b:Below w.heap.size w w'):Ii B sa w':=h.keep (Al b) (fun _ h=>h.elim)
theorem Ii.low{B C:Nat}{sa:Nat->Addr}{w w':V}(h:Ii B sa w)(b:Below C w w')(hC:B<=C):Ii B sa w':=h.keep (Ac.of_below b) (fun k hk=>No hC hk)
structure Hk (B:Nat) (sa:Nat->Addr) (w:V):Prop where
 g1:w.cell? ⟨0,0,O⟩=U (ZL 372 (ZA (U (sa 1))))
 g2:w.cell? ⟨2,0,O⟩=U (ZL 372 (ZA (U (sa 2))))
 g6:w.cell? ⟨6,0,O⟩=U (ZL 372 (ZA (U (sa 6))))
 g7:w.cell? ⟨7,0,O⟩=U (ZL 372 (ZA (U (sa 7))))
 nb:0<B/\2<B/\6<B/\7<B
 top:B<=w.heap.size
theorem Hk.keep{B:Nat}{d:Nat->Addr}{S:Nat->Prop}{w w':V}(h:Hk B d w)(k:Ac S w w')(a:∀b,S b->B<=b):Hk B d w':=by
 have e:=h.top;obtain⟨n1,f,g,i⟩:=h.nb;refine⟨?_,?_,?_,?_,h.nb,No e k.size⟩
 ·rw[k.cell (p:=⟨0,0,O⟩) (by show 0<_;omega) (fun x=>by have:B<=0:=a _ x;omega)];exact h.g1
 ·rw[k.cell (p:=⟨2,0,O⟩) (by show 2<_;omega) (fun x=>by have:B<=2:=a _ x;omega)];exact h.g2
 ·rw[k.cell (p:=⟨6,0,O⟩) (by show 6<_;omega) (fun x=>by have:B<=6:=a _ x;omega)];exact h.g6
 ·rw[k.cell (p:=⟨7,0,O⟩) (by show 7<_;omega) (fun x=>by have:B<=7:=a _ x;omega)];exact h.g7
theorem Hk.below{B:Nat}{sa:Nat->Addr}{w w':V}(h:Hk B sa w)(b:Below w.heap.size w w'):Hk B sa w':=h.keep (Al b) (fun _ h=>h.elim)
structure CM where
 bs:List UInt8
 off:Bool
 cut:Int
 wr:Int
def Gc(w:V)(rb:Nat)(bs:List UInt8):Prop:=∃C t,w.heap[rb]? =U (ZC C t (0,0))/\bs.length<=C.size/\∀i (hi:i<bs.length),C[i]? =U (I .u8 (bs[i].toNat:Int))
def Wy(ao:Option Addr)(cap:Nat)(m:CM):Obj:=ZC #[F ao m.bs.length cap,ZK m.off,I J m.cut,I J m.wr] 158
structure A7 (w:V) (c rb:Nat) (ao:Option Addr) (cap:Nat) (m:CM):Prop where
 box:w.heap[c]? =U (Wy ao cap m)
 ne:rb≠c
 at_:ao=U ⟨rb,0,O⟩\/(m.bs= []/\ao=O)
 row:ao=U ⟨rb,0,O⟩->Gc w rb m.bs
 len:m.bs.length<=4096
 room:m.bs.length<=cap
theorem Gc.cell{w:V}{rb:Nat}{bs:List UInt8}(h:Gc w rb bs)(i:Nat)(hi:i<bs.length):w.cell? ⟨rb,i,O⟩=U (I .u8 (bs[i].toNat:Int)):=by
 obtain⟨C,t,h1,h2,h3⟩:=h;simp[World.cell?,h1,h3 i hi]
theorem Gc.free{w:V}{rb:Nat}{bs:List UInt8}(h:Gc w rb bs)(o:Nat):w.frozen? ⟨rb,o,O⟩=false:=by
 obtain⟨C,t,h1,h2,h3⟩:=h;simp[World.frozen?,h1]
theorem Gc.keep{S:Nat->Prop}{w w':V}{rb:Nat}{bs:List UInt8}(h:Gc w rb bs)(k:Ac S w w')(a:¬S rb):Gc w' rb bs:=by
 obtain⟨C,t,h1,h2,h3⟩:=h;exact⟨C,t,k.get h1 a,h2,h3⟩
theorem G4{w:V}{c rb:Nat}{ao:Option Addr}{cap:Nat}{m:CM}(h:A7 w c rb ao cap m):
  w.cell? ⟨c,0,O⟩=U (F ao m.bs.length cap)/\w.cell? ⟨c,1,O⟩=U (ZK m.off)/\w.cell? ⟨c,2,O⟩=U (I J m.cut)/\w.cell? ⟨c,3,O⟩=U (I J m.wr)/\∀o,w.frozen? ⟨c,o,O⟩=false:=by
 have h:=h.box;unfold Wy at h;simp[World.cell?,World.frozen?,h]
theorem A7.keep{S:Nat->Prop}{w w':V}{c rb:Nat}{ao:Option Addr}{cap:Nat}{m:CM}(h:A7 w c rb ao cap m)(k:Ac S w w')(d:∀b,S b->b≠c/\b≠rb):A7 w' c rb ao cap m:=
 ⟨k.get h.box (fun a=>(d _ a).1 rfl),h.ne,h.at_,fun e=>(h.row e).keep k (fun a=>(d _ a).2 rfl),h.len,h.room⟩
theorem A7.set1{w:V}{c rb:Nat}{ao:Option Addr}{cap:Nat}{m:CM}(h:A7 w c rb ao cap m)(x:Bool):A7 (w.setCell ⟨c,1,O⟩ (ZK x)) c rb ao cap { m with off:=x}:=by
 refine⟨?_,h.ne,h.at_,fun e=>(h.row e).keep (Af w c 1 (ZK x)) h.ne,h.len,h.room⟩;have h:=h.box;unfold Wy at h ⊢;rw[Ah _ h];rfl
theorem A7.set2{w:V}{c rb:Nat}{ao:Option Addr}{cap:Nat}{m:CM}(h:A7 w c rb ao cap m)(x:Int):A7 (w.setCell ⟨c,2,O⟩ (I J x)) c rb ao cap { m with cut:=x}:=by
 refine⟨?_,h.ne,h.at_,fun e=>(h.row e).keep (Af w c 2 (I J x)) h.ne,h.len,h.room⟩;have h:=h.box;unfold Wy at h ⊢;rw[Ah _ h];rfl
theorem A7.set3{w:V}{c rb:Nat}{ao:Option Addr}{cap:Nat}{m:CM}(h:A7 w c rb ao cap m)(x:Int):A7 (w.setCell ⟨c,3,O⟩ (I J x)) c rb ao cap { m with wr:=x}:=by
 refine⟨?_,h.ne,h.at_,fun e=>(h.row e).keep (Af w c 3 (I J x)) h.ne,h.len,h.room⟩;have h:=h.box;unfold Wy at h ⊢;rw[Ah _ h];rfl
theorem Tryz.infoByte:(ZI.info? 5).map (fun i=>(i.zero,i.size,i.bytes))=U (U (I .u8 0),1,1):=by kernel_rfl
theorem Gc.made(w:V)(n:Nat)(t:TypeId):Gc (w.alloc (ZC (madeCells #[I .u8 0] n) t)) w.heap.size (List.replicate n 0):=by
 refine⟨_,t,Ab _ _,by simp[size_madeCells],fun i hi=>?_⟩;simp at hi;simp[madeCells,hi,Nat.mod_one]
theorem Aae(n:Nat)(w:V)(m:n<=4096):
  ZH ZI 37 #[I J n] w fun e w'=>e=ZD (.tuple #[ZA (U ⟨w.heap.size+1,0,O⟩),.nilIface])/\A7 w' (w.heap.size+1) w.heap.size (U ⟨w.heap.size,0,O⟩) n ⟨List.replicate n 0,false,-1,0⟩/\Below w.heap.size w w':=by
 have l:=run_make_row' (P:=ZI) 85 5 (I .u8 0) 1 underlying85 Tryz.infoByte rfl J J n (by omega) (by omega);have j:=Gc.made w n 5;have i:Below w.heap.size w (w.alloc (ZC (madeCells #[I .u8 0] n) 5)):=(R1 _ _).alloc (Y2 _) _;have d:(w.alloc (ZC (madeCells #[I .u8 0] n) 5)).heap.size=w.heap.size+1:=H7 _ _;have g:=G j;have f:=G i;have a:=G d;clear j i d;have h0:¬(n:Int)<0:=by omega
 have h1:¬(4096:Int)<n:=by omega
 go_enter func37,ntmps37;go_wp2_with fail;generalize w.alloc _=w1 at g f a ⊢;refine bodyPost_ret (results_tmp2 rfl _ _ _) rfl ?_;rw[<-a.out];refine⟨rfl,⟨?_,by have:=a.out;omega,.inl rfl,fun _=>g.keep (Al ((R1 _ _).alloc (Y2 _) _)) (fun h=>h),by simpa using m,by simp⟩,f.alloc f.size _⟩;have:=Ab w1 (Wy (U ⟨w.heap.size,0,O⟩) n ⟨List.replicate n 0,false,-1,0⟩);rw[<-this];simp[Wy]
def Fm(off:Bool)(len:Nat)(at_ n:Int):Nat:=if at_<0\/n<0\/(len:Int)<at_\/(len:Int)-at_<n then 2 else if off=true then 8 else 0
theorem J7{off:Bool}{len:Nat}{at_ n:Int}(h:at_<0\/n<0\/(len:Int)<at_\/(len:Int)-at_<n):Fm off len at_ n=2:=if_pos h
theorem pS{len:Nat}{at_ n:Int}(h:¬(at_<0\/n<0\/(len:Int)<at_\/(len:Int)-at_<n)):Fm true len at_ n=8:=by simp[Fm,h]
theorem Lo{len:Nat}{at_ n:Int}(h:¬(at_<0\/n<0\/(len:Int)<at_\/(len:Int)-at_<n)):Fm false len at_ n=0:=by simp[Fm,h]
theorem Uc(B:Nat)(g:Nat->Addr)(c rb:Nat)(ao:Option Addr)(cap:Nat)(m:CM)(at_ n:Int)(w:V)(h:A7 w c rb ao cap m)(j:Hk B g w):
  ZH ZI 225 #[ZA (U ⟨c,0,O⟩),I J at_,I J n] w fun e w'=>e=ZD (errv g (Fm m.off m.bs.length at_ n))/\w=w':=by
 obtain⟨c0,c1,l,o,p⟩:=G4 h;obtain⟨g1,g2,g6,g7,_,_⟩:=j;have d:=h.len;clear h g2 g6;by_cases h1:at_<0
 ·rw[J7 (.inl h1)];go_enter func225,ntmps225;go_wp2_with fail;go_ret;exact⟨rfl,rfl⟩
 by_cases h2:n<0
 ·rw[J7 (.inr (.inl h2))];go_enter func225,ntmps225;go_wp2_with fail;go_ret;exact⟨rfl,rfl⟩
 by_cases h3:(m.bs.length:Int)<at_
 ·rw[J7 (.inr (.inr (.inl h3)))];go_enter func225,ntmps225;go_wp2_with fail;go_ret;exact⟨rfl,rfl⟩
 by_cases i:(m.bs.length:Int)-at_<n
 ·rw[J7 (.inr (.inr (.inr i)))];go_enter func225,ntmps225;go_wp2_with fail;go_ret;exact⟨rfl,rfl⟩
 have a:¬(at_<0\/n<0\/(m.bs.length:Int)<at_\/(m.bs.length:Int)-at_<n):=by omega
 cases f:m.off
 ·rw[f]at c1;rw[Lo a];clear a;go_enter func225,ntmps225;go_wp2_with fail;go_ret;exact⟨rfl,rfl⟩
 ·rw[f]at c1;rw[pS a];clear a;go_enter func225,ntmps225;go_wp2_with fail;go_ret;exact⟨rfl,rfl⟩
def kD(off:Bool)(n:Int):Nat:=if n<0 then 2 else if off=true then 8 else 0
def Qn(m:CM)(n:Int):CM:=if n<0 then m else if m.off=true then m else { m with cut:=n}
theorem tQ(B:Nat)(d:Nat->Addr)(c rb:Nat)(ao:Option Addr)(cap:Nat)(m:CM)(n:Int)(w:V)(h:A7 w c rb ao cap m)(f:Hk B d w):
  ZH ZI 125 #[ZA (U ⟨c,0,O⟩),I J n] w fun e w'=>e=ZD (errv d (kD m.off n))/\A7 w' c rb ao cap (Qn m n)/\Ac (· =c) w w':=by
 obtain⟨c0,c1,g,i,j⟩:=G4 h;obtain⟨g1,g2,g6,g7,_,_⟩:=f;have H:=G h;clear h g2 g6;unfold kD Qn;by_cases h1:n<0
 ·rw[if_pos h1,if_pos h1];go_enter func125,ntmps125;go_wp2_with fail;go_ret;exact⟨rfl,H.out,Ac.refl _ _⟩
 rw[if_neg h1,if_neg h1];cases a:m.off
 ·rw[a]at c1;rw[if_neg (by decide),if_neg (by decide)];go_enter func125,ntmps125;go_wp2_with fail;go_ret;have e:=H.set2 n;rw[a]at e;exact⟨rfl,e,Af w c 2 _⟩
 ·rw[a]at c1;rw[if_pos rfl,if_pos rfl];go_enter func125,ntmps125;go_wp2_with fail;go_ret;exact⟨rfl,H.out,Ac.refl _ _⟩
theorem Rf(c rb:Nat)(ao:Option Addr)(cap:Nat)(m:CM)(w:V)(h:A7 w c rb ao cap m):ZH ZI 52 #[ZA (U ⟨c,0,O⟩)] w fun e w'=>e=ZD (ZK (!m.off))/\w=w':=by
 obtain⟨c0,c1,a,d,f⟩:=G4 h;clear h;go_enter func52,ntmps52;go_wp2_with fail;go_ret;exact⟨rfl,rfl⟩
def Aw(l:List UInt8):ByteArray:=⟨l.toArray⟩
theorem Hy(w:V)(rb off cap:Nat)(l:List UInt8)(h:∀j (hj:j<l.length),w.cell? ⟨rb,off+j,O⟩=U (I .u8 (l[j].toNat:Int))):
  (convert 85 9 (F (U ⟨rb,off,O⟩) l.length cap)).run ZI w=.ok (ZB (Aw l)) w:=
 run_convert_bytes_back w 85 9 5 ⟨rb,off,O⟩ cap l underlying85 underlying5 underlying9 (fun j hj=>by rw[Dt];exact h j hj)
theorem gA(w:V)(cap:Nat):
  (convert 85 9 (F O 0 cap)).run ZI w=.ok (ZB (Aw [])) w:=
 run_convert_bytes_nil w 85 5 underlying85 underlying5 0 cap 9 underlying9
theorem Z7(w:V)(rb cap len a n:Nat)(h1:a+n<=cap):
  ∃A:Option Addr,(A=U ⟨rb,a,O⟩\/(n=0/\∃o,A=U ⟨rb,o,O⟩))/\(Instr.slice 85 (F (U ⟨rb,0,O⟩) len cap) (U (I J a)) (U (I J ((a:Int)+n))) O).run ZI w=.ok (F A n (cap-a)) w:=by
 have e:ZI.underlying 85=U (.slice (ZI.elem 85)):=by kernel_rfl
 have d:((sizeOf (ZI.elem 85)).run ZI w)=.ok 1 w:=by kernel_rfl
 refine⟨if cap=a then U ⟨rb,0,O⟩ else (U ⟨rb,0,O⟩:Option Addr).map (·.add (a*1)),?_,?_⟩
 ·by_cases h:cap=a
  ·right;rw[if_pos h];exact⟨by omega,0,rfl⟩
  ·left;rw[if_neg h,Nat.mul_one];show U (Addr.add ⟨rb,0,O⟩ a)=_
   rw[Dt,Zzt]
 ·rw[run_slice_lh w 85 (U ⟨rb,0,O⟩) len cap e J J a ((a:Int)+n) (by omega) (by omega) (by omega),d];show Result.ok (sliced _ _ _ _ _) w=_
  unfold sliced;rw[show((a:Int)).toNat=a from by omega,show((a:Int)+n).toNat=a+n from by omega,show a+n-a=n from by omega]
theorem Aad(c rb:Nat)(ao:Option Addr)(cap:Nat)(m:CM)(w:V)(h:A7 w c rb ao cap m):ZH ZI 187 #[ZA (U ⟨c,0,O⟩)] w fun e w'=>e=ZD (.tuple #[])/\A7 w' c rb ao cap ⟨m.bs,false,-1,m.wr⟩/\Ac (· =c) w w':=by
 obtain⟨c0,c1,d,f,g⟩:=G4 h;have a:=G ((h.set1 false).set2 (-1));clear h;go_enter func187,ntmps187;go_wp2_with fail;first|(go_end0;exact⟨rfl,a.out,(Af w c 1 _).trans (Af _ c 2 _)⟩)|(go_region;all_goals(go_wp2_with fail;go_end0;exact⟨rfl,a.out,((Af w c 1 _).trans (Af _ c 2 _))⟩))
theorem kH(B:Nat)(a:Nat->Addr)(c rb:Nat)(ao:Option Addr)(cap:Nat)(m:CM)(at_ n:Int)(k:Nat)(w:V)(h:A7 w c rb ao cap m)(d:Hk B a w)(i:Fm m.off m.bs.length at_ n=k+1):
  ZH ZI 182 #[ZA (U ⟨c,0,O⟩),I J at_,I J n] w fun e w'=>e=ZD (.tuple #[ZB (Aw []),errv a (k+1)])/\w=w':=by
 have f:=G d;have H:=G h;clear h d;go_enter func182,ntmps182;go_wp2_with fail;refine(Uc B a c rb ao cap m at_ n w H f.out).mono ?_;rintro e w' ⟨rfl,rfl⟩;rw[i];have g:errv a (k+1)=ZL 372 (ZA (U (a k))):=rfl;rw[g];go_wp2_with fail;go_ret2;exact⟨rfl,rfl⟩
theorem Re(B:Nat)(l:Nat->Addr)(c rb:Nat)(ao:Option Addr)(cap:Nat)(m:CM)(a n:Nat)(w:V)(h:A7 w c rb ao cap m)(s:Hk B l w)(E:m.off=false)(q:a+n<=m.bs.length):
  ZH ZI 182 #[ZA (U ⟨c,0,O⟩),I J a,I J n] w fun e w'=>e=ZD (.tuple #[ZB (Aw ((m.bs.drop a).take n)),.nilIface])/\w=w':=by
 have p:=G s;have H:=G h;obtain⟨c0,c1,P,Q,R⟩:=G4 h;have S:=h.len;have K:=h.room;have g:Fm m.off m.bs.length a n=0:=by rw[E];exact Lo (by omega)
 have d:((m.bs.drop a).take n).length=n:=by simp;omega
 rcases h.at_ with rfl|⟨C,rfl⟩
 ·have D:=h.row rfl;obtain⟨A,y,i⟩:=Z7 w rb cap m.bs.length a n (by omega);have u:(convert 85 9 (F A n (cap-a))).run ZI w=.ok (ZB (Aw ((m.bs.drop a).take n))) w:=by
   rcases y with rfl|⟨f,o,rfl⟩
   ·have:=Hy w rb a (cap-a) ((m.bs.drop a).take n) (fun j v=>by rw[d]at v;rw[D.cell (a+j) (by omega)];simp);rw[d]at this;exact this
   ·subst f;have:=Hy w rb o (cap-a) [] (fun j v=>by simp at v);simpa using this
  have N:=Zz0 ((a:Int)+n) (by omega);clear h s D d y;go_enter func182,ntmps182;go_wp2_with fail;refine(Uc B l c rb _ cap m a n w H p.out).mono ?_;rintro e w' ⟨rfl,rfl⟩;rw[g];rw[show errv l 0=.nilIface from rfl];clear H p g;go_wp2_with fail;go_ret2;exact⟨rfl,rfl⟩
 ·have t:a=0:=by rw[C]at q;simp at q;omega
  have f:n=0:=by rw[C]at q;simp at q;omega
  subst t;subst f;have i:(Instr.slice 85 (F O m.bs.length cap) (U (I J ((0:Nat):Int))) (U (I J (((0:Nat):Int)+((0:Nat):Int)))) O).run ZI w=.ok (F O 0 cap) w:=by
   have M:ZI.underlying 85=U (.slice (ZI.elem 85)):=by kernel_rfl
   have L:((sizeOf (ZI.elem 85)).run ZI w)=.ok 1 w:=by kernel_rfl
   rw[run_slice_lh w 85 O m.bs.length cap M J J ((0:Nat):Int) (((0:Nat):Int)+((0:Nat):Int)) (by omega) (by omega) (by omega),L];show Result.ok (sliced _ _ _ _ _) w=_
   unfold sliced;split<;>rfl
  have u:=gA w cap;simp only[Int.natCast_zero,Int.add_zero]at i g ⊢;clear h s d;go_enter func182,ntmps182;go_wp2_with fail;refine(Uc B l c rb _ cap m _ _ w H p.out).mono ?_;rintro e w' ⟨rfl,rfl⟩;rw[g];rw[show errv l 0=.nilIface from rfl];clear H p g;go_wp2_with fail;go_ret2;exact⟨by simp,rfl⟩
def Dy(bs:List UInt8)(a:Nat)(l:List UInt8)(j:Nat):List UInt8:=bs.take a++l.take j++bs.drop (a+j)
theorem V5(bs:List UInt8)(a:Nat)(l:List UInt8):Dy bs a l 0=bs:=by simp[Dy]
theorem Ei(bs:List UInt8)(a:Nat)(l:List UInt8)(j:Nat)(d:j<=l.length)(h:a+j<=bs.length):(Dy bs a l j).length=bs.length:=by
 simp[Dy];omega
theorem vC(bs:List UInt8)(a:Nat)(l:List UInt8)(j:Nat)(d:j<l.length)(h:a+j<bs.length):Dy bs a l (j+1)=(Dy bs a l j).set (a+j) l[j]:=by
 have h1:(bs.take a++l.take j).length=a+j:=by simp;omega
 unfold Dy;rw[If d,List.set_append_right _ _ (by omega),h1,Nat.sub_self];rw[Zy3 h,C1,<-Zzm];simp only[F6,Zyl,Zyp]
def Eg(cut:Int)(j:Nat):Int:=if cut= -1 then -1 else cut-j
theorem Ad2(cut:Int):Eg cut 0=cut:=by unfold Eg;split<;>omega
theorem Ad3{cut:Int}{j:Nat}(h0:-1<=cut)(a:cut= -1\/(j:Int)<cut):(if -1<Eg cut j-1 then Eg cut j-1 else -1)=Eg cut (j+1):=by
 unfold Eg;by_cases h:cut= -1
 ·simp[h]
 ·simp only[h,if_false];split<;>omega
def Bj(cut:Int)(len:Nat):Nat:=if cut= -1 then len else min cut.toNat len
def Be(m:CM)(a:Nat)(l:List UInt8):CM:=⟨Dy m.bs a l (Bj m.cut l.length),decide (Bj m.cut l.length<l.length),Eg m.cut (Bj m.cut l.length),m.wr+Bj m.cut l.length⟩
def Bb(cut:Int)(len:Nat):Nat:=if Bj cut len<len then 8 else 0
theorem Gc.set{w:V}{rb:Nat}{bs:List UInt8}(h:Gc w rb bs)(i:Nat)(x:UInt8)(hi:i<bs.length):Gc (w.setCell ⟨rb,i,O⟩ (I .u8 (x.toNat:Int))) rb (bs.set i x):=by
 obtain⟨C,t,h1,h2,h3⟩:=h;refine⟨C.setIfInBounds i (I .u8 (x.toNat:Int)),t,Ah _ h1,by simpa using h2,fun j a=>?_⟩;simp at a;by_cases e:i=j
 ·subst e;have:i<C.size:=by omega
  simp[this]
 ·simp[e,h3 j a]
theorem A7.setB{w:V}{c rb:Nat}{cap:Nat}{m:CM}(h:A7 w c rb (U ⟨rb,0,O⟩) cap m)(i:Nat)(x:UInt8)(hi:i<m.bs.length):A7 (w.setCell ⟨rb,i,O⟩ (I .u8 (x.toNat:Int))) c rb (U ⟨rb,0,O⟩) cap ⟨m.bs.set i x,m.off,m.cut,m.wr⟩:=by
 refine⟨?_,h.ne,.inl rfl,fun _=>(h.row rfl).set i x hi,by simpa using h.len,by simpa using h.room⟩;have h1:=(Af w rb i (I .u8 (x.toNat:Int))).get h.box (fun e=>h.ne e.symm);rw[h1];simp[Wy]
theorem Xg(B:Nat)(K:Nat->Addr)(c rb:Nat)(cap:Nat)(m:CM)(a:Nat)(s:ByteArray)(w:V)(h:A7 w c rb (U ⟨rb,0,O⟩) cap m)(hS:Hk B K w)(hB:B<=c/\B<=rb)(ho:m.off=false)(hn:a+s.size<=m.bs.length)
  (X:-1<=m.cut) (av:m.cut<=9223372036854775807) (ax:0<=m.wr) (ay:m.wr<=1000000000):
  ZH ZI 239 #[ZA (U ⟨c,0,O⟩),I J a,ZB s] w fun e w'=>e=ZD (errv K (Bb m.cut s.size))/\A7 w' c rb (U ⟨rb,0,O⟩) cap (Be m a s.data.toList)/\Ac (fun b=>b=c\/b=rb) w w':=by
 have HS:=G hS;have H:=G h;have hl:=h.len;have hk:Fm m.off m.bs.length a s.size=0:=by rw[ho];exact Lo (by omega)
 have h0:A7 w c rb (U ⟨rb,0,O⟩) cap ⟨Dy m.bs a s.data.toList 0,false,Eg m.cut 0,m.wr+(0:Nat)⟩:=by
  rw[V5,Ad2,<-ho,show m.wr+((0:Nat):Int)=m.wr by omega];exact h
 have H0:=G h0;have T:Hid (Ac (fun b=>b=c\/b=rb) w w):=Ac.refl _ _;have aw:s.data.toList.length=s.size:=rfl;clear h hS h0;go_enter func239,ntmps239;go_wp2_with fail;refine(Uc B K c rb _ cap m a s.size w H HS.out).mono ?_;rintro e w' ⟨rfl,rfl⟩;rw[hk];rw[show errv K 0=.nilIface from rfl];clear hk;go_wp2_with fail;go_loopw [19] (fun q wr=>∃j:Nat,j<=Bj m.cut s.size/\j<=s.size/\q=I J j/\Hid (A7 wr c rb (U ⟨rb,0,O⟩) cap ⟨Dy m.bs a s.data.toList j,false,Eg m.cut j,m.wr+j⟩)/\Hid (Ac (fun b=>b=c\/b=rb) w wr)) (fun q _=>s.size-(intOf q).toNat);case atStart=>exact⟨0,In _,In _,rfl,H0,T⟩
 case round=>
  obtain⟨j,aa,hj,rfl,f,l⟩:=hrel;obtain⟨c0,c1,S,c3,cf⟩:=G4 f.out;simp only at c0 c1 S c3;rw[Ei m.bs a s.data.toList j (by omega) (by omega)]at c0;by_cases y:j<s.size
  ·by_cases p:Eg m.cut j=0
   ·have Y:m.cut=j:=by
     unfold Eg at p;split at p<;>omega
    have d:Bj m.cut s.size=j:=by
     simp only[Bj,show ¬m.cut= -1 by omega,if_false];omega
    have t:=f.set1 true;have k1:=l.trans ((Af wr c 1 (ZK true)).mono (fun b _ i=>Or.inl i));obtain⟨g1,g2,g6,g7,_,_⟩:=(HS.keep k1 (fun b i=>by rcases i with rfl|rfl;exact hB.1;exact hB.2))
    rw[p]at S;have n:Bb m.cut s.size=8:=by simp[Bb,d,y]
    have u:Be m a s.data.toList=⟨Dy m.bs a s.data.toList j,true,Eg m.cut j,m.wr+j⟩:=by
     show(⟨Dy m.bs a s.data.toList (Bj m.cut s.size),decide (Bj m.cut s.size<s.size),Eg m.cut (Bj m.cut s.size),m.wr+Bj m.cut s.size⟩:CM)=_
     rw[d,On y]
    have P:=G n;have Q:=G u;have L:=G t;have R:=G k1;clear g1 g2 g6 t k1 n u p Y d;go_wp2_with fail;go_ret;rw[P.out,Q.out];exact⟨rfl,L.out,R.out⟩
   ·have ab:(Eg m.cut j==0)=false:=by simp[p]
    have E:=f.row rfl;have A:a+j<(Dy m.bs a s.data.toList j).length:=by rw[Ei m.bs a s.data.toList j (by omega) (by omega)];omega
    obtain⟨vv,qv⟩:∃vv,wr.cell? ⟨rb,a+j,O⟩=U vv:=⟨_,E.cell (a+j) A⟩
    have qf:=E.free;have HR:=G E;have aq:=Zz0 ((a:Int)+j) (by omega);have al:(j:Int)<(s.size:Int):=by omega
    have ai:(a:Int)+j<(m.bs.length:Int):=by omega
    clear E A;go_upto_region 10 with fail;go_region;have Z:m.cut= -1\/(j:Int)<m.cut:=by
     by_cases e:m.cut= -1
     ·exact .inl e
     ·right;have D:Eg m.cut j=m.cut-j:=by simp[Eg,e]
      have n:Bj m.cut s.size=min m.cut.toNat s.size:=by simp[Bj,e]
      rw[D]at p;rw[n]at aa;omega
    have v:j+1<=Bj m.cut s.size:=by
     by_cases e:m.cut= -1
     ·simp[Bj,e];omega
     ·simp only[Bj,e,if_false];omega
    have o:=G (Ad3 X Z);have aj:-1<=Eg m.cut j/\Eg m.cut j<=9223372036854775807:=by unfold Eg;split<;>omega
    have D:(Dy m.bs a s.data.toList j).set (a+j) s[j]=Dy m.bs a s.data.toList (j+1):=(vC m.bs a s.data.toList j (by omega) (by omega)).symm;have g:=f.setB (a+j) s[j] (by simp only;rw[Ei m.bs a s.data.toList j (by omega) (by omega)];omega);simp only at g;rw[D]at g;have kd:Ac (fun b=>b=c\/b=rb) w ((wr.setCell ⟨rb,a+j,O⟩ (I .u8 (s[j].toNat:Int))).drew):=(l.trans ((Af wr rb (a+j) _).mono (fun b _ i=>.inr i))).drew;have t:=G (g.keep (Ac.drew (Ac.refl (fun _=>False) _)) (fun _ h=>h.elim));have K1:=G kd;clear g kd D c0 c1 S c3 cf qv qf HR l f p ab;generalize World.drew _=w1 at t K1 ⊢;obtain⟨x0,x1,x2,x3,xf⟩:=G4 t.out;have M:=G (t.set3 (m.wr+j+1));have K2:=G (K1.trans ((Af w1 c 3 (I J (m.wr+j+1))).mono (fun b _ i=>.inl i)));simp only at x0 x1 x2 x3;go_upto_region 12 with fail;generalize World.setCell _ _ _=w2 at M K2 ⊢;obtain⟨y0,y1,y2,y3,yf⟩:=G4 M.out;simp only at y0 y1 y2 y3;go_wp2_with fail;rw[o.out];have C:=M.set2 (Eg m.cut (j+1));simp only at C;rw[show m.wr+(j:Int)+1=m.wr+((j+1:Nat):Int)by omega]at C;have N:=G C;clear C;go_roundw;case rel=>exact⟨j+1,v,by omega,by go_num,N,K2.trans ((Af w2 c 2 _).mono (fun b _ i=>.inl i))⟩
    case measure=>simp[intOf];omega
  ·obtain rfl:j=s.size:=by omega
   have d:Bj m.cut s.size=s.size:=by
    have:Bj m.cut s.size<=s.size:=by unfold Bj;split;exact Y2 _;exact Nat.min_le_right _ _
    omega
   have n:Bb m.cut s.size=0:=by simp[Bb,d]
   have u:Be m a s.data.toList=⟨Dy m.bs a s.data.toList s.size,false,Eg m.cut s.size,m.wr+s.size⟩:=by
    show(⟨Dy m.bs a s.data.toList (Bj m.cut s.size),decide (Bj m.cut s.size<s.size),Eg m.cut (Bj m.cut s.size),m.wr+Bj m.cut s.size⟩:CM)=_
    rw[d,N1 (Nat.lt_irrefl _)]
   have P:=G n;have Q:=G u;clear n u d;go_wp2_with fail;go_ret;rw[P.out,Q.out];exact⟨rfl,f.out,l.out⟩
structure J3 (m:CM) (k:Int):Prop where
 c0:-1<=m.cut
 c1:m.cut<=9223372036854775807
 w0:0<=m.wr
 w1:m.wr<=k
theorem J3.mono{m:CM}{k k':Int}(h:J3 m k)(hk:k<=k'):J3 m k':=⟨h.c0,h.c1,h.w0,by have:=h.w1;omega⟩
