import Derived.Test.YtikehilbmldadaaGreatDoorP10
import Derived.Test.YtikehilbmldadaaGreatDoorP16
set_option maxHeartbeats 4000000
set_option maxRecDepth 100000
set_option linter.unusedVariables false
namespace Go.Proofs.YtikehilbmldadaaGreatDoor
open Proofs.Tryz YtikehilbmldadaaGreatDoor.Tryz RowKit
open Go renaming World->V,Value->ZE,RowKit.Below->ZF,RowKit.Hid->ZG,Calls->ZH,Value.int->I,IntKind.i64->J,Value.slice->F,Value.pointer->ZA,Obj.cells->ZC,Ending.returned->ZD,Value.tuple->ZM,Proofs.Tryz.prog->ZI
open Option renaming some->U,none->O
theorem Agi(n:Nat)(a:n<=9)(w:V):ZH ZI 272 #[I .u64 n] w fun e w'=>(∃k:Int,e=ZD (I J k))/\w'=w:=by
 have:n=0\/n=1\/n=2\/n=3\/n=4\/n=5\/n=6\/n=7\/n=8\/n=9:=by omega
 rcases this with rfl|rfl|rfl|rfl|rfl|rfl|rfl|rfl|rfl|rfl;all_goals
  go_enter func272,ntmps272;go_wp2_with fail;go_ret;exact⟨⟨_,rfl⟩,rfl⟩
theorem Aer(n:Nat)(a:n<=9)(w:V):ZH ZI 229 #[I .u64 n] w fun e w'=>(∃k:Int,e=ZD (I J k))/\w'=w:=by
 have h:=Agi n a w;go_enter func229,ntmps229;go_wp2_with fail;refine h.mono ?_;rintro e w1 ⟨⟨k,rfl⟩,rfl⟩;go_wp2_with fail;go_ret;exact⟨⟨k,rfl⟩,rfl⟩
theorem Aln(w:V)(g cap:Nat)(l0:List Ap)(a:O4 w g l0)(d:∀r∈l0,r.seq<4294967296)(o:l0.length<=9)(k:Int):
  ZH ZI 228 #[F (U ⟨g,0,O⟩) l0.length cap,I J 0,I J l0.length,I J k,Vy] w fun e w'=>e=ZD (ZM #[])/\∃l,Ku l l0.length/\Kx g l0 l w w':=by
 have h:=G (xU w g cap l0 a d (by omega));clear a d;have f:(l0.length:Int)<=9:=by omega
 unfold Vy at h ⊢;go_enter func228,ntmps228;go_wp2_with fail;go_loopw [1,2,3,10,11] (fun s1 s2 p i j wr=>s1=I J 0/\s2=I J l0.length/\wr=w) (fun _ _ _ _ _ _=>0);case atStart=>exact⟨rfl,rfl,rfl⟩
 case round=>
  obtain⟨rfl,rfl,rfl⟩:=hrel;go_wp2_with fail;refine h.mono ?_;rintro e w1 ⟨rfl,l,h1,h2⟩;go_wp2_with fail;refine bodyPost_ret (results_none rfl _ _ _) rfl ?_;exact⟨rfl,l,h1,h2⟩
theorem rD(w:V)(g cap:Nat)(l0:List Ap)(f:O4 w g l0)(i:∀r∈l0,r.seq<4294967296)(d:l0.length<=9):
  ZH ZI 185 #[F (U ⟨g,0,O⟩) l0.length cap,Vy] w fun e w'=>e=ZD (ZM #[])/\∃l,Ku l l0.length/\Kx g l0 l w w':=by
 have h1:=Aer l0.length d w;have h2:=fun k=>G (Aln w g cap l0 f i d k);clear f i;have j:(l0.length:Int)<=9:=by omega
 have a:(2:Int) ^ IntKind.u64.bits=18446744073709551616:=by decide
 have o:IntKind.u64.wrap (l0.length:Int)=(l0.length:Int):=by
  show(l0.length:Int).emod ((2:Int) ^ IntKind.u64.bits)=_
  rw[a];exact Int.emod_eq_of_lt (by omega) (by omega)
 clear a;unfold Vy at h2 ⊢;go_enter func185,ntmps185;go_wp2_with fail;refine h1.mono ?_;rintro e w1 ⟨⟨k,rfl⟩,rfl⟩;go_wp2_with fail;refine(h2 k).out.mono ?_;rintro e w1 ⟨rfl,l,h1,h2⟩;go_wp2_with fail;go_end0;exact⟨rfl,l,h1,h2⟩
def D2(b:List UInt8)(k:Nat):List Ap:=(List.range k).filterMap (Bg b)
theorem Ab3(b:List UInt8):D2 b 0= []:=rfl
theorem Tb{b:List UInt8}{k:Nat}{r:Ap}(h:Bg b k=U r):D2 b (k+1)=D2 b k++ [r]:=by
 unfold D2;rw[Zz4,List.filterMap_append];simp[h]
theorem Tc{b:List UInt8}{k:Nat}(h:Bg b k=O):D2 b (k+1)=D2 b k:=by
 unfold D2;rw[Zz4,List.filterMap_append];simp[h]
theorem Vm(b:List UInt8)(k:Nat):(D2 b k).length<=k:=by
 unfold D2;exact No (List.length_filterMap_le _ _) (by simp)
theorem Rr{b:List UInt8}{k:Nat}{r:Ap}:r∈D2 b k↔∃i,i<k/\Bg b i=U r:=by
 unfold D2;simp[List.mem_filterMap]
theorem Wk(b:List UInt8):∀k,k<=9->((D2 b k).map (·.seq)).Nodup
 |0,_=>by simp[Ab3]
 |k+1,hk=>by
  have ih:=Wk b k (by omega)
  cases h:Bg b k with
  |none=>rw[Tc h];exact ih
  |some r=>
   rw[Tb h,B0,List.nodup_append]
   refine⟨ih,by simp,?_⟩
   intro a g c f
   simp at f
   subst f
   obtain⟨x,j,rfl⟩:=List.mem_map.1 g
   obtain⟨i,hi,d⟩:=Rr.1 j
   have h1:=(Lc b) i x d
   have h2:=(Lc b) k r h
   intro e
   rw[e]at h1
   omega
theorem Aa8{w:V}{base:Nat}{e:TypeId}{g cap:Nat}{l:List Ap}(h:w.ownsRow base e 4 (F (U ⟨g,0,O⟩) l.length cap) l.length (l.flatMap Ao))(h0:0<l.length):
  O4 w g l/\base<=g/\l.length<=cap/\cap<=maxLen:=by
 obtain⟨b,off,o,u,y,p⟩:=K7 (Ge h) h0;obtain⟨_,f⟩:=h;rcases f with⟨h1,h2⟩|⟨s,i,a,f,d,j,h1,h2,h3,t⟩
 ·omega
 ·injection f with e1 e2 e3;obtain⟨rfl,rfl,_⟩:=Option.some.inj o;injection e1 with e1;injection e1 with e4;subst e4;subst e3;refine⟨⟨a,e,j,by rw[h3];exact Zxw _ h1,fun k q=>?_⟩,d,h1,h2⟩;have:=p k q;simpa [World.cell?,j] using this
theorem Aaz{w:V}{base g cap:Nat}{l:List Ap}(h:O4 w g l)(p:base<=g)(h1:l.length<=cap)(h2:cap<=maxLen):Av (fun b=>base<=b) w (F (U ⟨g,0,O⟩) l.length cap) 4 (l.flatMap Ao) l.length:=by
 have s:=h.cells;obtain⟨C,t,y,_⟩:=h;refine⟨Ot l,_,_,rfl,h1,h2,(fun h=>by cases h),fun D=>⟨g,0,rfl,p,Aa y,fun k u i=>?_⟩⟩;have A:k<l.length*4:=by rw[<-Ot];exact(List.getElem?_eq_some_iff.1 i).1
 have a:k/4<l.length:=by omega
 have e:k=k/4*4+k%4:=by omega
 have f:=Q8 Ao 4 Ty l (k/4) a (k%4) (Zx5 _ (by decide));rw[<-e,i]at f;obtain⟨c0,c1,j,o⟩:=s (k/4) a;rw[Ol a]at c0 c1 j o;rw[Zzt];generalize E:k/4=q at *;have d:k%4=0\/k%4=1\/k%4=2\/k%4=3:=by omega
 rcases d with d|d|d|d<;>rw[d]at e f<;>rw[e]<;>simp[Ao]at f<;>rw[f]<;>assumption
theorem Tr{l:List Ap}(h:Ku l l.length)(g:(l.map (·.seq)).Nodup):l.Pairwise (fun a b=>a.seq<b.seq):=by
 rw[List.pairwise_iff_getElem];intro i j hi f d;have h1:=h i j d f;rw[Wa hi,Wa f]at h1;have h2:l[i].seq≠l[j].seq:=by
  have:=(List.nodup_iff_pairwise_ne.1 g)
  rw[List.pairwise_iff_getElem]at this;have:=this i j (by simpa using hi) (by simpa using f) d;simpa using this
 omega
structure Ry (b:List UInt8) (l:List Ap):Prop where
 perm:l.Perm (D2 b 9)
 up:l.Pairwise (fun a b=>a.seq<b.seq)
theorem Ry.len{b:List UInt8}{l:List Ap}(h:Ry b l):l.length<=9:=by rw[h.perm.length_eq];exact Vm b 9
structure Zv (l:List Ap) (i:Nat):Prop where
 i1:i<=l.length-1
 i8:l.length-i<=8
 run:∀j,i<=j->j<l.length->sq l j+(l.length-1-j)=sq l (l.length-1)
theorem Zv.start{b:List UInt8}{l:List Ap}(h:Ry b l):Zv l (l.length-1):=
 ⟨Y2 _,by have:=h.len;omega,fun j h1 h2=>by
  have:j=l.length-1:=by omega
  subst this
  omega⟩
theorem Zv.step{l:List Ap}{i:Nat}(h:Zv l (i+1))(a:l.length-(i+1)<8)(d:sq l i+1=sq l (i+1)):Zv l i:=by
 have hi:=h.i1;refine⟨by omega,by omega,fun j h1 h2=>?_⟩;by_cases e:j=i
 ·subst e;have:=h.run (j+1) (Y2 _) (by omega);omega
 ·exact h.run j (by omega) h2
theorem N4{b:List UInt8}{l:List Ap}{i:Nat}(h:Ry b l)(p:Zv l i)(y:i=0\/8<=l.length-i\/∃ZO,i=ZO+1/\sq l ZO+1≠sq l (ZO+1)):Fg b=l.drop i:=by
 have A:∀k,k<9->Bg b k=(fun k=>if k<9 then Bg b k else O) k:=fun k g=>by simp[g]
 have o:∀r,r∈l↔∃k,(fun k=>if k<9 then Bg b k else O) k=U r:=fun r=>by
  rw[h.perm.mem_iff,Rr];constructor
  ·rintro⟨i,hi,a⟩;exact⟨i,by simp[hi,a]⟩
  ·rintro⟨i,a⟩;by_cases hi:i<9
   ·exact⟨i,hi,by simpa [hi] using a⟩
   ·simp[hi]at a
 have d:(l.getLast?.map (·.seq)).getD 0=if l= [] then 0 else sq l (l.length-1):=by
  by_cases e:l= []
  ·subst e;simp
  ·rw[if_neg e];have h0:0<l.length:=List.length_pos_iff.2 e;rw[Zyt,R4 (by omega),Wa (by omega)];rfl
 have hi:=p.i1;have q:HOk (fun k=>if k<9 then Bg b k else O):=fun k r a=>by
  by_cases g:k<9
  ·simp[g]at a;exact Lc b k r a
  ·simp[g]at a
 have:=wK (fun k=>if k<9 then Bg b k else O) q (fun k g=>by simp;omega) l o h.up i (by omega) p.i8
  (fun j h1 h2=>by
   have e:l≠ []:=fun e=>by rw[e]at h2;simp at h2
   rw[d,if_neg e,<-Wa h2];exact p.run j h1 h2)
  (fun e=>by have h0:0<l.length:=List.length_pos_iff.2 e;omega)
  (by
   rcases y with h|h|⟨ZO,rfl,h⟩
   ·exact .inl h
   ·exact .inr (.inl (by have:=p.i8;omega))
   ·by_cases e:l.length=0
    ·omega
    ·exact .inr (.inr ⟨by omega,by omega,by omega,by
      have h1:ZO<l.length:=by omega
      have h2:ZO+1<l.length:=by omega
      rw[Wa h1,Wa h2]at h;exact h⟩))
 rw[<-this];unfold Fg;have t:Ew (Bg b) 9=Ew (fun k=>if k<9 then Bg b k else O) 9:=by
  simp[Ew,Nd]
 rw[t];have u:∀f s,Ey (Bg b) f s=Ey (fun k=>if k<9 then Bg b k else O) f s:=by
  intro f;induction f with
  |zero=>intro s;cases s<;>rfl
  |succ f ih=>
   intro s;cases s with
   |zero=>rfl
   |succ s=>
    unfold Ey;have:s%9<9:=Zx5 _ (by decide);simp only[this,if_true,ih]
 exact u _ _
theorem kG(c rb:Nat)(ao:Option Addr)(cap:Nat)(m:CM)(w:V)(h:A7 w c rb ao cap m):ZH ZI 183 #[ZA (U ⟨c,0,O⟩)] w fun e w'=>e=ZD (I J m.bs.length)/\w=w':=by
 obtain⟨c0,c1,a,d,f⟩:=G4 h;clear h;go_enter func183,ntmps183;go_wp2_with fail;go_ret;exact⟨rfl,rfl⟩
def kR(b:List UInt8)(k:Nat):List UInt8:=(b.drop (k*17)).take 17
theorem tP(B:Nat)(sa:Nat->Addr)(c rb cap:Nat)(m:CM)(k:Nat)(w:V)(h:A7 w c rb (U ⟨rb,0,O⟩) cap m)(a:Hk B sa w)(f:m.off=false)(d:k*17+17<=m.bs.length):
  ZH ZI 182 #[ZA (U ⟨c,0,O⟩),I J ((k:Int)*17),I J 17] w fun e w'=>e=ZD (ZM #[.string (Aw (kR m.bs k)),.nilIface])/\w=w':=by
 have:=Re B sa c rb _ cap m (k*17) 17 w h a f d;rw[Int.natCast_mul]at this;exact this
structure V3 (w:V) (base:Nat) (ao:Option Addr) (cap:Nat) (l:List Ap):Prop where
 row:w.ownsRow base 147 4 (F ao l.length cap) l.length (l.flatMap Ao)
 nil:l= []->ao=O/\cap=0
structure U2 (w:V) (base:Nat) (ao:Option Addr) (cap:Nat) (l:List Ap):Prop where
 row:Av (fun b=>base<=b) w (F ao l.length cap) 4 (l.flatMap Ao) l.length
 nil:l= []->ao=O/\cap=0
theorem V3.some{w:V}{base:Nat}{ao:Option Addr}{cap:Nat}{l:List Ap}(h:V3 w base ao cap l)(h0:0<l.length):∃g,ao=U ⟨g,0,O⟩:=by
 obtain⟨g,e,_⟩:=Wj h.row h0;exact⟨g,e⟩
theorem Acu(w:V):ZH ZI 263 #[F O 0 0,I J 0,I J 0,Vy] w fun e w'=>e=ZD (ZM #[])/\w'=w:=by
 unfold Vy;go_enter func263,ntmps263;go_wp2_with fail;go_loopw [8] (fun a wr=>a=I J 1/\wr=w) (fun _ _=>0);case atStart=>exact⟨rfl,rfl⟩
 case round=>
  obtain⟨rfl,rfl⟩:=hrel;go_wp2_with fail;go_end0;exact⟨rfl,rfl⟩
theorem Ab1(w:V)(k:Int):ZH ZI 228 #[F O 0 0,I J 0,I J 0,I J k,Vy] w fun e w'=>e=ZD (ZM #[])/\w'=w:=by
 have h:=Acu w;unfold Vy at h ⊢;go_enter func228,ntmps228;go_wp2_with fail;go_loopw [1,2,3,10,11] (fun s1 s2 f a d wr=>s1=I J 0/\s2=I J 0/\wr=w) (fun _ _ _ _ _ _=>0);case atStart=>exact⟨rfl,rfl,rfl⟩
 case round=>
  obtain⟨rfl,rfl,rfl⟩:=hrel;go_wp2_with fail;refine h.mono ?_;rintro e w1 ⟨rfl,rfl⟩;go_wp2_with fail;refine bodyPost_ret (results_none rfl _ _ _) rfl ?_;exact⟨rfl,rfl⟩
theorem vO(w:V):ZH ZI 185 #[F O 0 0,Vy] w fun e w'=>e=ZD (ZM #[])/\w'=w:=by
 have h1:=Aer 0 (by decide) w;have h2:=fun k=>G (Ab1 w k);unfold Vy at h2 ⊢;go_enter func185,ntmps185;go_wp2_with fail;refine h1.mono ?_;rintro e w1 ⟨⟨k,rfl⟩,rfl⟩;go_wp2_with fail;refine(h2 k).out.mono ?_;rintro e w1 ⟨rfl,rfl⟩;go_wp2_with fail;go_end0;exact⟨rfl,rfl⟩
theorem rE(b:List UInt8)(w:V)(base:Nat)(ao:Option Addr)(cap:Nat)(h:V3 w base ao cap (D2 b 9)):
  ZH ZI 185 #[F ao (D2 b 9).length cap,Vy] w fun e w'=>e=ZD (ZM #[])/\∃l,l.length=(D2 b 9).length/\Ry b l/\U2 w' base ao cap l/\Ac (fun x=>base<=x) w w':=by
 by_cases h0:(D2 b 9).length=0
 ·have j:=H3 h0;obtain⟨rfl,rfl⟩:=h.nil j;rw[h0];refine(vO w).mono ?_;rintro e w1 ⟨rfl,rfl⟩;refine⟨rfl,[],rfl,⟨by rw[j],List.Pairwise.nil⟩,⟨?_,fun _=>⟨rfl,rfl⟩⟩,Ac.refl _ _⟩;have:=Ge h.row;rw[j]at this;exact this
 ·obtain⟨g,rfl⟩:=h.some (by omega);obtain⟨o,d,h1,h2⟩:=Aa8 h.row (by omega);refine(rD w g cap (D2 b 9) o (fun r o=>by obtain⟨i,_,hi⟩:=Rr.1 o;exact(Lc b i r hi).1.s2) (Vm b 9)).mono ?_;rintro e w1 ⟨rfl,l,p,a⟩;have f:=a.len;rw[<-f]at p h1;refine⟨rfl,l,f,⟨a.perm,Tr p ?_⟩,⟨?_,fun e=>by subst e;simp at f;omega⟩,a.kp.mono (fun b _ d=>by subst d;assumption)⟩
  ·exact(List.Perm.nodup_iff (a.perm.map _)).2 (Wk b 9 (Y2 _))
  ·exact Aaz a.row d h1 h2
theorem sS(b:List UInt8)(k:Nat):Do k (Aw (kR b k)).data.toList=Bg b k:=by rw[Ik];rfl
structure OpB (B:Nat) (sa:Nat->Addr) (c rb cap:Nat) (m:CM) (w0 w:V):Prop where
 mem:A7 w c rb (U ⟨rb,0,O⟩) cap m
 se:Hk B sa w
 bel:ZF w0.heap.size w0 w
theorem OpB.below{B:Nat}{sa:Nat->Addr}{c rb cap:Nat}{m:CM}{w0 w w':V}(h:OpB B sa c rb cap m w0 w)(b:ZF w.heap.size w w'):OpB B sa c rb cap m w0 w':=
 ⟨h.mem.keep (Al b) (fun _ h=>h.elim),h.se.below b,h.bel.trans (b.mono h.bel.size)⟩
theorem OpB.keep{B:Nat}{sa:Nat->Addr}{c rb cap:Nat}{m:CM}{w0 w w':V}(h:OpB B sa c rb cap m w0 w)(k:Ac (fun x=>w0.heap.size<=x) w w')(h1:c<w0.heap.size)(h2:rb<w0.heap.size)(h3:B<=w0.heap.size):OpB B sa c rb cap m w0 w':=
 ⟨h.mem.keep k (fun b a=>by omega),h.se.keep k (fun b a=>by omega),h.bel.trans (k.below h.bel.size (fun b a=>a))⟩
theorem V3.below{w w':V}{base:Nat}{ao:Option Addr}{cap:Nat}{l:List Ap}(h:V3 w base ao cap l)(b:ZF w.heap.size w w'):V3 w' base ao cap l:=by
 refine⟨?_,h.nil⟩;obtain⟨h1,h2⟩:=h.row;refine⟨h1,?_⟩;rcases h2 with j|⟨g,f,a,e,i,d,rest⟩
 ·exact .inl j
 ·exact .inr ⟨g,f,a,e,i,Ae b d (Aa d),rest⟩
theorem Ob(w:V)(r:Ap):(w.alloc (D7 r)).heap[w.heap.size]? =U (D7 r)/\ZF w.heap.size w (w.alloc (D7 r)):=⟨Ab _ _,(R1 _ _).alloc (Y2 _) _⟩
theorem Af8{a d:V}{base:Nat}{ao:Option Addr}{cap:Nat}{l:List Ap}{o:Obj}(h:V3 a base ao cap l)(f:base<=a.heap.size)(g:(a.alloc o).grownBy d (Value.slice ao l.length cap).ownBlock):ZF base a d:=
 ((R1 base a).alloc f o).grown g (by simp;omega) (fun k i=>((h.row.alloc o).lt k i).1)
theorem Aiv{w:V}{base:Nat}{b:List UInt8}{k:Nat}{r:Ap}{ao:Option Addr}{cap:Nat}(a:Bg b k=U r)(h:w.ownsRow base 147 4 (F ao ((D2 b k).length+1) cap) ((D2 b k).length+1) ((D2 b k).flatMap Ao++Ao r)):V3 w base ao cap (D2 b (k+1)):=by
 rw[Tb a];refine⟨?_,fun e=>by simp at e⟩;rw[R2,B1];simpa using h
theorem Av.imp2{R S:Nat->Prop}{w:V}{v:ZE}{f:Nat}{a:List ZE}{n:Nat}(h:Av R w v f a n)(p:∀b,R b->b<w.heap.size->S b):Av S w v f a n:=by
 obtain⟨q,g,cap,t,h1,h2,h3,i⟩:=h;refine⟨q,g,cap,t,h1,h2,h3,fun s=>?_⟩;obtain⟨b,off,l,j,d,o⟩:=i s;exact⟨b,off,l,p b j d,d,o⟩
theorem U2.at{w:V}{base g cap:Nat}{l:List Ap}(h:U2 w base (U ⟨g,0,O⟩) cap l)(k:Nat)(a:k<l.length):w.cell? ⟨g,k*4,O⟩=U (I J (sq l k)):=by
 obtain⟨b,off,d,i,j,f⟩:=K7 h.row (by omega);obtain⟨rfl,rfl,_⟩:=Option.some.inj d;have:=(f k a).1;rw[Zzt]at this;rw[this,Wa a]
structure tX (w w':V) (rg:Nat) (lv:ZE):Prop where
 bel:ZF w.heap.size w w'
 rg:w.heap.size<=rg
 lv:Z0 w w' lv
theorem Qv{B:Nat}{sa:Nat->Addr}{c rb cap:Nat}{m:CM}{w0 w W a:V}{L:List Ap}{f:Option Addr}{g:Nat}(h:OpB B sa c rb cap m w a)(p:ZF w0.heap.size w0 w)(o:w0.heap.size<=c/\w0.heap.size<=rb/\B<=w0.heap.size)
  (t:c<w.heap.size) (q:rb<w.heap.size) (j:w.heap.size<=W.heap.size) (l:a.ownsRow W.heap.size 147 4 (F f L.length g) L.length (L.flatMap Ao)):
  RSt B sa w0 a.heap.size c rb cap m false L (F f L.length g) (a.alloc (Io c (F f L.length g) false))/\tX w (a.alloc (Io c (F f L.length g) false)) a.heap.size (F f L.length g):=by
 have d:ZF a.heap.size a (a.alloc (Io c (F f L.length g) false)):=(R1 _ _).alloc (Y2 _) _;have h2:=h.below d;have s:=h.bel.size;refine⟨⟨⟨Ab _ _,?_⟩,h2.mem,h2.se,p.trans (h2.bel.mono p.size),?_⟩,h2.bel,s,fun b i=>⟨No j (l.lt b i).1,F5 (l.lt b i).2 d.size⟩⟩
 ·refine((Ge l).imp2 (fun b q u=>?_)).later d;show b≠c/\b≠rb/\b≠a.heap.size
  omega
 ·omega
theorem U2.below{w w':V}{base:Nat}{ao:Option Addr}{cap:Nat}{l:List Ap}(h:U2 w base ao cap l)(b:ZF w.heap.size w w'):U2 w' base ao cap l:=⟨h.row.later b,h.nil⟩
theorem sB(B:Nat)(sa:Nat->Addr)(c rb cap:Nat)(m:CM)(w0 w:V)(h:A7 w c rb (U ⟨rb,0,O⟩) cap m)(hS:Hk B sa w)(hl:153<=m.bs.length)(ho:m.off=false)
  (hw:ZF w0.heap.size w0 w) (aa:w0.heap.size<=c/\w0.heap.size<=rb/\B<=w0.heap.size):
  ZH ZI 115 #[ZA (U ⟨c,0,O⟩)] w fun e w'=>∃rg lv,e=ZD (ZM #[ZA (U ⟨rg,0,O⟩),.nilIface])/\RSt B sa w0 rg c rb cap m false (Fg m.bs) lv w'/\tX w w' rg lv:=by
 obtain⟨i0,a3,ck,cl,cm⟩:=info_parts infoRec;have c5:(153:Int)<=(m.bs.length:Int):=by omega
 have hl2:(m.bs.length:Int)<=4611686018427387904:=by have:=h.len;omega
 have Z:=Aa h.box;have Y:rb<w.heap.size:=by
  obtain⟨C,t,hh,_⟩:=h.row rfl;exact Aa hh
 have az:ZG (OpB B sa c rb cap m w w):=G (⟨h,hS,R1 _ _⟩);have b5:ZG (∀(k:Nat) W,k<9->OpB B sa c rb cap m w W->ZH ZI 182 #[ZA (U ⟨c,0,O⟩),I J ((k:Int)*17),I J 17] W fun e w'=>e=ZD (ZM #[.string (Aw (kR m.bs k)),.nilIface])/\W=w'):=(show _ from fun k W hk hW=>tP B sa c rb cap m k W hW.mem hW.se ho (by omega))
 have b6:ZG (∀W,OpB B sa c rb cap m w W->ZH ZI 183 #[ZA (U ⟨c,0,O⟩)] W fun e w'=>e=ZD (I J m.bs.length)/\W=w'):=(show _ from fun W hW=>kG c rb _ cap m W hW.mem)
 have b1:ZG (∀(k:Nat) W,k<9->ZH ZI 184 #[I J k,.string (Aw (kR m.bs k))] W fun e w'=>e=ZD (Aq (Tx (Bg m.bs k)))/\ZF W.heap.size W w'):=(show _ from by
  intro k W hk;have:=Aj4 k hk (Aw (kR m.bs k)) (by rw[Bz];unfold kR;simp;omega) W;rwa [sS]at this)
 have bd:ZG (V3 w w.heap.size O 0 (D2 m.bs 0)):=G (⟨Zzr _ _ _ _,fun _=>⟨rfl,rfl⟩⟩);have HW:=G hw;have HLAY:=G aa;clear h hS hl ho hw aa;go_enter func115,ntmps115;go_wp2_with fail;go_loopw [4,13] (fun s4 a8 wr=>∃(k:Nat) (ao:Option Addr) (D:Nat),k<=9/\a8=I J k/\s4=F ao (D2 m.bs k).length D/\ZG (V3 wr w.heap.size ao D (D2 m.bs k))/\ZG (OpB B sa c rb cap m w wr)) (fun _ a8 _=>9-(intOf a8).toNat);case atStart=>exact⟨0,O,0,by decide,rfl,rfl,bd,az⟩
 case round=>
  obtain⟨k,ao,D,cg,rfl,rfl,HL,HO⟩:=hrel;clear bd;by_cases hk:k<9
  ·have c2:(k:Int)<9:=by omega
   go_wp2_with fail;refine(b5 k _ hk HO.out).mono ?_;rintro e w' ⟨rfl,rfl⟩;go_wp2_with fail;refine(b6 _ HO.out).mono ?_;rintro e w' ⟨rfl,rfl⟩;go_wp2_with fail;refine(b1 k _ hk).mono ?_;rintro e w3 ⟨rfl,b3⟩;cases hh:Bg m.bs k with
   |none=>
    have M:=G ((HO.below b3).below (Ob w3 ⟨0,0,0,0⟩).2);have K:=G ((HL.below b3).below (Ob w3 ⟨0,0,0,0⟩).2);obtain⟨x0,_,_,_⟩:=Ay (Ob w3 ⟨0,0,0,0⟩).1;rw[<-Tc hh]at K;rw[show Aq (Tx O)=.agg #[I J 0,I J 0,I J 0,I J 0] from rfl,<-Tc hh];unfold D7 at M K x0;clear HL HO b3 hh;go_upto_region 13 with fail;generalize w3.alloc _=w4 at M K x0 ⊢;go_wp2_with fail;go_roundw;case rel=>exact⟨k+1,ao,D,by omega,by go_num,rfl,K,M⟩
    case measure=>simp[intOf];omega
   |some r=>
    have bq:=(Lc m.bs k r hh).1;have M:=G ((HO.below b3).below (Ob w3 r).2);have K:=G ((HL.below b3).below (Ob w3 r).2);obtain⟨x0,x1,x2,x3⟩:=Ay (Ob w3 r).1;have ci:(1:Int)<=r.seq:=by have:=bq.s1;omega
    have h9:(D2 m.bs k).length<=9:=No (Vm m.bs k) cg;have b8:ZG ((D2 m.bs k).length+1<=maxLen):=by show(D2 m.bs k).length+1<=maxLen;unfold maxLen;omega
    have ce:ZG (((D2 m.bs k).length+1)*32<=140737488355328):=by show((D2 m.bs k).length+1)*32<=140737488355328;omega
    have HH:=G hh;rw[show Aq (Tx (U r))=.agg #[I J r.seq,I J r.ent,I J r.kind,I J r.tick] from rfl];unfold D7 at M K x0 x1 x2 x3;clear HL HO b3 bq h9 hh;go_upto_region 13 with fail;obtain⟨a4,bk⟩:∃a,a=w3.heap.size:=⟨_,rfl⟩
    rw[<-bk]at x0 x1 x2 x3 ⊢;generalize w3.alloc _=w4 at M K x0 x1 x2 x3 ⊢;clear bk;have cd:ZG (∀o,w.heap.size<=(w4.alloc o).heap.size):=G (fun o=>No M.bel.size (by simp));go_wp2_with (at_builtin;go_must (refine Bc rfl (.tmp 36) (.tmp 38) 68 rfl w.heap.size 147 i0 _ 4 32 underlying68 a3 ck cl cm rfl (by decide) _ (D2 m.bs k).length _ rfl (K.row.alloc _) ⟨w4.heap.size,0,O⟩ 1 1 (Ao r) rfl rfl (A1 _ (Ao r) _) (by intro u hu;simp[Ao]at hu;rcases hu with rfl|rfl|rfl|rfl<;>rfl) b8 ce (cd _) ?_;intro a1 k1 w6 bp bm));have bl:=Af8 K M.bel.size bm;have a0:=G (M.keep (Ac.of_below bl) Z Y az.se.top);have b2:ZG (V3 w6 w.heap.size a1 k1 (D2 m.bs (k+1))):=G (Aiv HH bp);have au:ZG ((D2 m.bs k).length+1=(D2 m.bs (k+1)).length):=G (by rw[Tb HH.out];simp);clear bp bm bl x0 x1 x2 x3 ci;go_wp2_with fail;go_roundw;case rel=>exact⟨k+1,a1,k1,by omega,by go_num,by rw[au.out],b2,a0⟩
    case measure=>simp[intOf];omega
  ·have ar:k=9:=by omega
   have aa:=HLAY.out;have bf:ZG (ZH ZI 185 #[F ao (D2 m.bs 9).length D,.func (.func 186) #[] #[]] wr fun e w'=>e=ZD (ZM #[])/\∃l,l.length=(D2 m.bs 9).length/\Ry m.bs l/\U2 w' w.heap.size ao D l/\Ac (fun x=>w.heap.size<=x) wr w'):=(show _ from rE m.bs wr w.heap.size ao D (by rw[ar]at HL;exact HL.out))
   have ad:ZG (∀(W:V) (v:ZE) (l:List Ap),Av (fun x=>w.heap.size<=x) W v 4 (l.flatMap Ao) l.length->l.length<=9->ZH ZI 95 #[v] W fun e w'=>∃ao D,e=ZD (F ao l.length D)/\w'.ownsRow W.heap.size 147 4 (F ao l.length D) l.length (l.flatMap Ao)/\ZF W.heap.size W w'):=(show _ from fun W v l h1 h2=>Ns _ l v W h1 (by omega))
   have ap:ZG (0<(D2 m.bs 9).length->∃g,ao=U ⟨g,0,O⟩):=G (by rw[ar]at HL;exact HL.some);rw[ar];clear ar hk aa HL;go_wp2_with fail;refine bf.mono ?_;rintro e w4 ⟨rfl,l,au,a2,bj,bn⟩;have ae:=G (HO.keep bn Z Y az.se.top);have A:=G a2;have af:=G bj;have c4:l.length<=9:=a2.len;rw[<-au]at ap ⊢;clear au a2 bj bn bf HO;by_cases h0:l.length=0
   ·obtain⟨rfl,rfl⟩:=af.nil (H3 h0);rw[h0];have a5:l= []:=H3 h0;obtain⟨L,s⟩:∃L,L=l.drop 0:=⟨_,rfl⟩
    have Q:ZG (Fg m.bs=L):=G (by rw[s];exact N4 A (by have:=Zv.start A.out;rw[h0]at this;exact this) (.inl rfl));have HNIL:ZG (∀W,Av (fun x=>w.heap.size<=x) W (F O 0 0) 4 (L.flatMap Ao) L.length):=G (fun W=>by rw[s,a5];exact Av.nil _ W 4);have q:ZG (L.length<=9):=G (by rw[s,a5];decide);clear a5 ap af s;go_wp2_with fail;go_loopw [9] (fun s9 wy=>s9=I J 0/\ZG (OpB B sa c rb cap m w wy)) (fun _ _=>0);case atStart=>exact⟨rfl,ae⟩
    case round=>
     obtain⟨rfl,y⟩:=hrel;go_wp2_with fail;go_quiet (fail);go_wp2_with fail;refine(ad _ _ L (HNIL _) q.out).mono ?_;rintro e w7 ⟨a7,k7,rfl,S,b7⟩;have P:=G ((y.below (Ag _ (R1 _ _))).below b7);have H:=G (Qv P HW HLAY Z Y y.bel.size S);unfold Io at H;go_wp2_with fail;go_ret2;rw[Q.out];exact⟨_,_,rfl,H.1,H.2⟩
   ·obtain⟨g,rfl⟩:=ap (by omega);obtain⟨N,hN⟩:∃N,l.length=N+1:=⟨l.length-1,by omega⟩
    have cc:(l.length:Int)-1=(N:Int):=by omega
    have bo:max (0:Int) (N:Int)=(N:Int):=by omega
    have cb:N<=8:=by omega
    have cs:l.length<=D:=by
     obtain⟨_,ao,cap,hv,h1,_⟩:=af.row;injection hv with _ _ e;omega
    have ai:ZG (Zv l N):=G (by have:=Zv.start A.out;rwa [hN]at this);have ah:ZG (∀k,k<l.length->sq l k<4294967296):=G (fun k hk=>by
     rw[Wa hk];obtain⟨i,_,hi⟩:=Rr.1 (A.perm.subset (M2 hk));exact(Lc m.bs i _ hi).1.s2)
    have bi:=G hN;have ch:(l.length:Int)<=9:=by omega
    have am:ZG (U2 w4 w.heap.size (U ⟨g,0,O⟩) D l):=af;clear ap h0 hN af;go_wp2_with fail
    ·clear ch;go_loopw [9] (fun s9 wy=>∃i,s9=I J (i:Nat)/\ZG (Zv l i)/\ZG (U2 wy w.heap.size (U ⟨g,0,O⟩) D l)/\ZG (OpB B sa c rb cap m w wy)) (fun s9 _=>(intOf s9).toNat);case atStart=>exact⟨N,rfl,ai,am,ae⟩
     case round=>
      obtain⟨i,rfl,HR,T,y⟩:=hrel;clear am ae ai;have E:i<l.length:=by have:=HR.i1;have:=bi.out;omega
      by_cases a3:i=0
      ·subst a3;have f:=G (N4 A HR (.inl rfl));have j:=fun w=>Li w g l.length D 0 (by omega) (by omega);simp only[Int.natCast_zero]at j;obtain⟨L,s⟩:∃L,L=l.drop 0:=⟨_,rfl⟩
       have p:l.length-0=L.length:=by rw[s,B2]
       rw[<-s]at f;rw[p]at j;have Q:=f;have X:ZG (∀W,U2 W w.heap.size (U ⟨g,0,O⟩) D l->Av (fun x=>w.heap.size<=x) W (F (U ⟨g,0*4,O⟩) L.length (D-0)) 4 (L.flatMap Ao) L.length):=(show _ from fun W hW=>by
        have:=Nz hW.row 0 E;rw[<-s,p]at this;exact this)
       have q:ZG (L.length<=9):=G (by rw[s,B2];omega);clear s p E ah A HR f;go_wp2_with fail;go_quiet (fail);have R:=G (T.below (Ag nq (R1 _ _)));go_wp2_with fail;refine(ad _ _ L (X _ R.out) q.out).mono ?_;rintro e w7 ⟨a7,k7,rfl,S,b7⟩;have P:=G ((y.below (Ag _ (R1 _ _))).below b7);have H:=G (Qv P HW HLAY Z Y y.bel.size S);unfold Io at H;go_wp2_with fail;go_ret2;rw[Q.out];exact⟨_,_,rfl,H.1,H.2⟩
      ·obtain⟨d,rfl⟩:∃d,i=d+1:=⟨i-1,by omega⟩
       have cx:(d:Int)+1<(l.length:Int):=by omega
       have cy:(d:Int)<(l.length:Int):=by omega
       have cz:(0:Int)<(d:Int)+1:=by omega
       have c7:IntKind.i64.wrap (d:Int)=(d:Int):=Zz0 _ (by omega);have q0:=T.at (d+1) E;have p0:=T.at d (by omega);have a6:=ah (d+1) E;obtain⟨rj,ak⟩:∃r,r=sq l (d+1):=⟨_,rfl⟩
       obtain⟨rJ,aj⟩:∃r,r=sq l d:=⟨_,rfl⟩
       rw[<-ak]at q0 a6;rw[<-aj]at p0;have c8:IntKind.i64.wrap ((rj:Int)-1)=(rj:Int)-1:=Zz0 _ (by omega);have c1:(rj:Int)<4294967296:=by omega
       have j:=fun w=>Li w g l.length D (d+1) (by omega) (by omega);simp only[Int.natCast_add,Int.natCast_one]at j;by_cases h8:8<=l.length-(d+1)
       ·have cj:decide ((l.length:Int)-((d:Int)+1)<8)=false:=N1 (by omega);have f:=G (N4 A HR (.inr (.inl h8)));obtain⟨L,s⟩:∃L,L=l.drop (d+1):=⟨_,rfl⟩
        have p:l.length-(d+1)=L.length:=by rw[s,B2]
        rw[<-s]at f;rw[p]at j;have Q:=f;have X:ZG (∀W,U2 W w.heap.size (U ⟨g,0,O⟩) D l->Av (fun x=>w.heap.size<=x) W (F (U ⟨g,(d+1)*4,O⟩) L.length (D-(d+1))) 4 (L.flatMap Ao) L.length):=(show _ from fun W hW=>by
         have:=Nz hW.row (d+1) E;rw[<-s,p]at this;exact this)
        have q:ZG (L.length<=9):=G (by rw[s,B2];omega);clear s p E ah A HR f;go_wp2_with fail;go_quiet (fail);have R:=G (T.below (Ag nq (R1 _ _)));go_wp2_with fail;refine(ad _ _ L (X _ R.out) q.out).mono ?_;rintro e w7 ⟨a7,k7,rfl,S,b7⟩;have P:=G ((y.below (Ag _ (R1 _ _))).below b7);have H:=G (Qv P HW HLAY Z Y y.bel.size S);unfold Io at H;go_wp2_with fail;go_ret2;rw[Q.out];exact⟨_,_,rfl,H.1,H.2⟩
       ·have cj:decide ((l.length:Int)-((d:Int)+1)<8)=true:=On (by omega);by_cases he:rJ+1=rj
        ·have cf:((rJ:Int)==(rj:Int)-1)=true:=by simp;omega
         have b4:=G (HR.step (by omega) (by rw[<-ak,<-aj];exact he));clear j E h8 a6 ak aj he;go_wp2_with fail;go_quiet (fail);have a0:=G (y.below (Ag nq (R1 _ _)));have R:=G (T.below (Ag nq (R1 _ _)));go_wp2_with fail;go_roundw;case rel=>exact⟨d,by go_num,b4,R,a0⟩
         case measure=>simp[intOf]
        ·have cf:((rJ:Int)==(rj:Int)-1)=false:=by simp;omega
         have f:=G (N4 A HR (.inr (.inr ⟨d,rfl,by rw[<-ak,<-aj];exact he⟩)));clear he h8 a6 ak aj;obtain⟨L,s⟩:∃L,L=l.drop (d+1):=⟨_,rfl⟩
         have p:l.length-(d+1)=L.length:=by rw[s,B2]
         rw[<-s]at f;rw[p]at j;have Q:=f;have X:ZG (∀W,U2 W w.heap.size (U ⟨g,0,O⟩) D l->Av (fun x=>w.heap.size<=x) W (F (U ⟨g,(d+1)*4,O⟩) L.length (D-(d+1))) 4 (L.flatMap Ao) L.length):=(show _ from fun W hW=>by
          have:=Nz hW.row (d+1) E;rw[<-s,p]at this;exact this)
         have q:ZG (L.length<=9):=G (by rw[s,B2];omega);clear s p E ah A HR f;go_wp2_with fail;go_quiet (fail);have R:=G (T.below (Ag nq (R1 _ _)));go_wp2_with fail;refine(ad _ _ L (X _ R.out) q.out).mono ?_;rintro e w7 ⟨a7,k7,rfl,S,b7⟩;have P:=G ((y.below (Ag _ (R1 _ _))).below b7);have H:=G (Qv P HW HLAY Z Y y.bel.size S);unfold Io at H;go_wp2_with fail;go_ret2;rw[Q.out];exact⟨_,_,rfl,H.1,H.2⟩
    ·have bh:N=0:=by omega
     rw[bh]at ai;have HR:=ai;have E:0<l.length:=by have:=bi.out;omega
     clear cc bo cb ai bh;go_loopw [9] (fun s9 wy=>s9=I J 0/\ZG (U2 wy w.heap.size (U ⟨g,0,O⟩) D l)/\ZG (OpB B sa c rb cap m w wy)) (fun s9 _=>0);case atStart=>exact⟨rfl,am,ae⟩
     case round=>
      obtain⟨rfl,T,y⟩:=hrel;clear am ae;have f:=G (N4 A HR (.inl rfl));have j:=fun w=>Li w g l.length D 0 (by omega) (by omega);simp only[Int.natCast_zero]at j;obtain⟨L,s⟩:∃L,L=l.drop 0:=⟨_,rfl⟩
      have p:l.length-0=L.length:=by rw[s,B2]
      rw[<-s]at f;rw[p]at j;have Q:=f;have X:ZG (∀W,U2 W w.heap.size (U ⟨g,0,O⟩) D l->Av (fun x=>w.heap.size<=x) W (F (U ⟨g,0*4,O⟩) L.length (D-0)) 4 (L.flatMap Ao) L.length):=(show _ from fun W hW=>by
       have:=Nz hW.row 0 E;rw[<-s,p]at this;exact this)
      have q:ZG (L.length<=9):=G (by rw[s,B2];omega);clear s p E ah A HR f;go_wp2_with fail;go_quiet (fail);have R:=G (T.below (Ag nq (R1 _ _)));go_wp2_with fail;refine(ad _ _ L (X _ R.out) q.out).mono ?_;rintro e w7 ⟨a7,k7,rfl,S,b7⟩;have P:=G ((y.below (Ag _ (R1 _ _))).below b7);have H:=G (Qv P HW HLAY Z Y y.bel.size S);unfold Io at H;go_wp2_with fail;go_ret2;rw[Q.out];exact⟨_,_,rfl,H.1,H.2⟩
theorem O9{m:CM}(a:Nat)(l:List UInt8)(h:m.cut= -1):(Be m a l).cut= -1/\(Be m a l).off=false/\Bb m.cut l.length=0:=by
 have d:Bj m.cut l.length=l.length:=by unfold Bj;rw[if_pos h]
 refine⟨?_,?_,?_⟩
 ·show Eg m.cut _= -1
  unfold Eg;rw[if_pos h]
 ·show decide (Bj m.cut l.length<l.length)=false
  rw[d];simp
 ·unfold Bb;rw[d];simp
theorem Ye{m:CM}(x:Ap)(h:m.cut= -1):(A4.put2 m x).1=0/\(A4.put2 m x).2.cut= -1:=by
 have h1:=O9 (C9 x) (A0 x) h;have h2:=O9 (C9 x+16) [165] h1.1;rw[B7]at h1;unfold A4.put2;rw[if_pos h1.2.2];exact⟨h2.2.2,h2.1⟩
theorem Af4{m:CM}(x:Ap)(h:m.cut= -1)(a:m.off=false)(f:153<=m.bs.length):(A4 m x).1=0/\(A4 m x).2.cut= -1:=by
 have g:C9 x+17<=153:=by unfold C9;omega
 have h1:=O9 (C9 x+16) [0] h;have d:Bb m.cut 1=0:=h1.2.2;unfold A4;rw[a,if_pos (Lo (by omega))];split
 ·exact Ye x h
 ·exact Ye x h1.1
theorem Ael{m:CM}{k:Int}(x:Ap)(h:J3 m k):J3 (A4.put2 m x).2 (k+17):=by
 have h1:=h.write (C9 x) (A0 x);have h2:=h1.write (C9 x+16) [165];rw[B7]at h1 h2;unfold A4.put2;split
 ·exact h2.mono (by simp;omega)
 ·exact h1.mono (by omega)
theorem Amz{m:CM}{k:Int}(x:Ap)(h:J3 m k):J3 (A4 m x).2 (k+18):=by
 have h1:=h.write (C9 x+16) [0];unfold A4;split
 ·split
  ·exact(Ael x h).mono (by omega)
  ·split
   ·exact(Ael x h1).mono (by rw[G3];omega)
   ·exact h1.mono (by rw[G3];omega)
 ·exact h.mono (by omega)
def Lq(D:List Ap):List Ap:=D.drop (D.length-8)
theorem Oj(D:List Ap):(Lq D).length=min D.length 8:=by unfold Lq;simp;omega
theorem Ach(D:List Ap)(x:Ap):(Lq D++ [x]).drop ((Lq D).length+1-8)=Lq (D++ [x]):=by
 rw[Oj];unfold Lq;rw[R2,G3];by_cases h:D.length<=7
 ·rw[show D.length-8=0 by omega,Zx8,show min D.length 8+1-8=0 by omega,show D.length+1-8=0 by omega]
 ·rw[show min D.length 8+1-8=1 by omega,<-List.drop_append_of_le_length (by omega),Zyd];congr 1;omega
theorem Lp{D:List Ap}(h:∀j (hj:j<D.length),D[j].seq=j+1):(Gd (Lq D)).seq=D.length:=by
 unfold Gd;rw[Zyt];rcases Nat.eq_zero_or_pos D.length with h0|h0
 ·have:D= []:=H3 h0;subst this;rfl
 ·rw[Oj];unfold Lq;rw[Zyu,show D.length-8+(min D.length 8-1)=D.length-1 by omega,R4 (by omega)];show(D[D.length-1]).seq=D.length
  rw[h];omega
def Ki(D:List Ap)(e k t:Int):Ap:=⟨D.length+1,e.toNat,k.toNat,t.toNat⟩
theorem rW{D:List Ap}(h:∀j (hj:j<D.length),D[j].seq=j+1)(e k t:Int):Gx (Lq D) e k t=Ki D e k t:=by
 unfold Gx Ki;rw[Lp h]
theorem Afy(n:Nat)(h:153<=n):Fg (List.replicate n 0)= []:=by
 rw[pF (pE n h)];rfl
theorem vZ{H:Nat->Option Ap}{f s:Nat}{r:Ap}(h:H (s%9)=U r)(a:r.seq=s+1):Ey H (f+1) (s+1)=Ey H f s++ [r]:=by
 conv=>lhs;unfold Ey
 rw[h];simp only;rw[if_pos a]
section
variable {B:Nat} {sa:Nat->Addr} {w0 w w':V} {c rb cap:Nat} {m m':CM}
end
theorem Al7(w:V)(a v1 v2 d:ZE)(t:TypeId):ZF w.heap.size w (w.alloc (ZC #[a,v1,v2,d] t))/\(w.alloc (ZC #[a,v1,v2,d] t)).cell? ⟨w.heap.size,0,O⟩=U a/\(w.alloc (ZC #[a,v1,v2,d] t)).cell? ⟨w.heap.size,1,O⟩=U v1/\
  (w.alloc (ZC #[a,v1,v2,d] t)).cell? ⟨w.heap.size,2,O⟩=U v2/\(w.alloc (ZC #[a,v1,v2,d] t)).cell? ⟨w.heap.size,3,O⟩=U d/\w.heap.size<(w.alloc (ZC #[a,v1,v2,d] t)).heap.size:=by
 have h:=Ab w (ZC #[a,v1,v2,d] t);have f:=(R1 w.heap.size w).alloc (Y2 _) (ZC #[a,v1,v2,d] t);have g:=Aa h;generalize w.alloc _=w1 at h f g ⊢;refine⟨f,?_,?_,?_,?_,g⟩<;>simp[World.cell?,h]
theorem W5(l s t:Nat)(E:Ak)(j i ve d vl u:ZE)(m:Di)(w:V)(h:G5 l s t E j i ve d vl m w)(o:w.cell? ⟨9,0,O⟩=U u):
  ZH ZI 49 #[ZA (U ⟨l,0,O⟩)] w fun e w'=>e=ZD u/\w=w':=by
 obtain⟨⟨y,a,g,f,q,base,lo,hi,h1,h2⟩,p⟩:=h;obtain⟨c0,_⟩:=D8 h1;clear h1 h2;go_enter func49,ntmps49;go_wp2_with fail;go_ret;exact⟨rfl,rfl⟩
theorem Ym(l:Nat)(E:Ak)(f d ve a vl u:ZE)(w:V)(h:w.heap[l]? =U (Lw O E f d ve a vl))(g:w.cell? ⟨8,0,O⟩=U u):
  ZH ZI 50 #[ZA (U ⟨l,0,O⟩)] w fun e w'=>e=ZD u/\w=w':=by
 obtain⟨c0,_⟩:=D8 h;clear h;go_enter func50,ntmps50;go_wp2_with fail;go_ret;exact⟨rfl,rfl⟩
theorem Vp(l:Nat)(E:Ak)(f d ve a vl u:ZE)(p t:Int)(w:V)(h:w.heap[l]? =U (Lw O E f d ve a vl))(g:w.cell? ⟨8,0,O⟩=U u):
  ZH ZI 51 #[ZA (U ⟨l,0,O⟩),I J p,I J t] w fun e w'=>e=ZD u/\w=w':=by
 obtain⟨c0,_⟩:=D8 h;clear h;go_enter func51,ntmps51;go_wp2_with fail;go_ret;exact⟨rfl,rfl⟩
theorem gQ(l:Nat)(E:Ak)(f d ve a vl:ZE)(w:V)(h:w.heap[l]? =U (Lw O E f d ve a vl)):
  ZH ZI 151 #[ZA (U ⟨l,0,O⟩)] w fun e w'=>e=ZD (ZM #[I J 0,.bool false])/\w=w':=by
 obtain⟨c0,_⟩:=D8 h;clear h;go_enter func151,ntmps151;go_wp2_with fail;go_ret2;exact⟨rfl,rfl⟩
structure Bl where
 act:Bool
 since:Nat
 L:List Bm
 run:Int
 exp:Bool
def Uj(E:Ak)(c:Int)(m:Bm):Bool:=decide (m.cycle=c)&&decide (m.point=E.count)
def Gn(E:Ak)(l:List Bm)(c:Int):Nat:=l.countP (Uj E c)
def Jo(E:Ak)(l:List Bm)(c:Int):Bool:=E.gaps.any (fun g=>En g l c l.length)
def Kz(E:Ak)(l:List Bm)(c:Int):Int:=
 if 0<=E.count/\0<c/\((Gn E l c:Int)<E.mn\/E.mx<(Gn E l c:Int)) then 1 else if Jo E l c=true then 2 else if D9 E l c l.length=true then 3 else 0
def rR(m:Bl)(p t:Int):Bl:=⟨m.act,m.since,m.L++ [⟨p,t,m.since⟩],m.run,m.exp⟩
def N5(E:Ak)(m:Bl):Int:=if Kz E m.L m.since=0 then 0 else m.run+1
def Wf(E:Ak)(m:Bl):Bool:=decide (E.tol<N5 E m)&& !m.exp
def Ln(E:Ak)(m:Bl):Bl:=⟨m.act,m.since+1,m.L,N5 E m,m.exp||decide (E.tol<N5 E m)⟩
def rl0:Bl:=⟨true,0,[],0,false⟩
theorem Zl(E:Ak)(l:List Bm)(x:Bm)(c:Int):Gn E (l++ [x]) c=Gn E l c+(if Uj E c x=true then 1 else 0):=by
 unfold Gn;rw[List.countP_append];cases h:Uj E c x<;>simp[h]
theorem Zm(E:Ak)(l:List Bm)(c:Int):Gn E l c<=l.length:=List.countP_le_length
theorem Aab(E:Ak)(l:List Bm)(c:Int)(h:∀m∈l,m.cycle≠c):Gn E l c=0:=by
 unfold Gn;rw[List.countP_eq_zero];intro x a;simp[Uj,h x a]
theorem Aea(E:Ak)(l:List Bm)(c:Int)(i:Nat)(hi:i<l.length):Gn E (l.take (i+1)) c=Gn E (l.take i) c+(if Uj E c l[i]=true then 1 else 0):=by
 rw[If hi,Zl]
structure tY (E:Ak) (x:Di) (m:Bl):Prop where
 wh:x.whole=decide (0<m.since)
 ex:x.exp=m.exp
 run:x.run=m.run
 cnt:0<=E.count->x.cnt=(Gn E m.L m.since:Int)
 gs:x.gs=E.gaps.map (Ac5 · m.L)
 gb:x.gbad=Jo E m.L m.since
 pos:x.pos=Fd E m.L
 fb:x.fbad=D9 E m.L m.since m.L.length
 cyc:∀k∈m.L,k.cycle<=(m.since:Int)
theorem Ab9(E:Ak):tY E (Iq E) rl0:=
 ⟨rfl,rfl,rfl,fun _=>rfl,rfl,by
  show false=E.gaps.any _
  induction E.gaps with
  |nil=>rfl
  |cons g l ih=>rw[List.any_cons,<-ih];rfl,rfl,rfl,fun k a=>by cases a⟩
theorem xA{E:Ak}{x:Di}{m:Bl}(h:tY E x m)(i:E.count<E.points.length)(j:m.L.length<1000)(p t:Int):tY E (Og E x p t) (rR m p t):=by
 refine⟨h.wh,h.ex,h.run,fun h0=>?_,?_,?_,?_,?_,?_⟩
 ·show I9 (Mw E) x.cnt p=(Gn E (m.L++ [(⟨p,t,m.since⟩:Bm)]) m.since:Int)
  have f:Mw E=E.count:=by
   show(if E.count<0\/(E.points.length:Int)<=E.count then (-1:Int) else E.count)=E.count
   rw[if_neg (by omega)]
  have d:=Zm E m.L m.since;rw[f,h.cnt h0,Zl];unfold I9 Uj;by_cases e:p=E.count
  ·rw[if_pos ⟨h0,e⟩];simp[e];omega
  ·rw[if_neg (fun x=>e x.2)];simp[e]
 ·show x.gs.map (It · p t)=E.gaps.map (Ac5 · (m.L++ [(⟨p,t,m.since⟩:Bm)]))
  rw[h.gs,Zyo];exact List.map_congr_left fun g _=>(Ag2 g m.L (⟨p,t,m.since⟩:Bm)).symm
 ·show(x.gbad||x.gs.any (Jn · p t))=Jo E (m.L++ [(⟨p,t,m.since⟩:Bm)]) m.since
  rw[h.gs,h.gb];unfold Jo;rw[List.any_map,Anb];congr 1;funext g;rw[sZ,<-Aj6 g m.L (⟨p,t,m.since⟩:Bm) m.since rfl];rfl
 ·show Ds E p=Fd E (m.L++ [(⟨p,t,m.since⟩:Bm)])
  rw[Q7]
 ·show(x.fbad|| !Fz E x.pos p)=D9 E (m.L++ [(⟨p,t,m.since⟩:Bm)]) m.since (m.L++ [(⟨p,t,m.since⟩:Bm)]).length
  rw[gY,h.fb,h.pos];simp[Oq]
 ·intro k a;rcases List.mem_append.1 a with a|a
  ·exact h.cyc k a
  ·rw[List.mem_singleton.1 a];exact Int.le_refl _
theorem pR{E:Ak}{x:Di}{m:Bl}(h:tY E x m)(g:E.count<E.points.length):Eb E x=Kz E m.L m.since:=by
 unfold Eb Kz;rw[h.gb,h.fb,h.wh];have key:(Ih (Mw E) E.mn E.mx x.cnt (decide (0<m.since))=false)↔(0<=E.count/\0<(m.since:Int)/\((Gn E m.L m.since:Int)<E.mn\/E.mx<(Gn E m.L m.since:Int))):=by
  by_cases h0:0<=E.count
  ·have d:Mw E=E.count:=by
    show(if E.count<0\/(E.points.length:Int)<=E.count then (-1:Int) else E.count)=E.count
    rw[if_neg (by omega)]
   rw[d,h.cnt h0];unfold Ih;rw[N1 (show ¬E.count<0 by omega)];by_cases f:0<m.since
   ·rw[On f];simp only[Bool.false_or,Bool.not_true,Bool.and_eq_false_iff,decide_eq_false_iff_not];omega
   ·rw[N1 f];simp;omega
  ·have d:Mw E= -1:=by
    show(if E.count<0\/(E.points.length:Int)<=E.count then (-1:Int) else E.count)= -1
    rw[if_pos (by omega)]
   rw[d];unfold Ih;simp;omega
 by_cases a:0<=E.count/\0<(m.since:Int)/\((Gn E m.L m.since:Int)<E.mn\/E.mx<(Gn E m.L m.since:Int))
 ·rw[if_pos a,if_pos (key.2 a)]
 ·rw[if_neg a,if_neg (fun e=>a (key.1 e))]
theorem Yk{E:Ak}{x:Di}{m:Bl}(h:tY E x m)(a:E.count<E.points.length):Je E x=N5 E m:=by
 unfold Je N5;rw[pR h a,h.run]
theorem xB{E:Ak}{x:Di}{m:Bl}(h:tY E x m)(a:E.count<E.points.length):Kj E x=Wf E m:=by
 unfold Kj Wf;rw[Yk h a,h.ex]
theorem Ai2{E:Ak}{x:Di}{m:Bl}(h:tY E x m)(f:E.count<E.points.length):tY E (Du E x) (Ln E m):=by
 have a:∀k∈m.L,k.cycle≠((m.since+1:Nat):Int):=fun k d=>by have:=h.cyc k d;omega
 refine⟨?_,?_,Yk h f,fun _=>?_,h.gs,?_,h.pos,?_,fun k d=>?_⟩
 ·show true=decide (0<m.since+1)
  rw[On (by omega)]
 ·show(x.exp||decide (E.tol<Je E x))=(m.exp||decide (E.tol<N5 E m))
  rw[Yk h f,h.ex]
 ·show(0:Int)=(Gn E m.L ((m.since+1:Nat):Int):Int)
  rw[Aab E m.L _ a];rfl
 ·show false=Jo E m.L ((m.since+1:Nat):Int)
  unfold Jo;symm;rw[Zy1];intro g _;rw[gW g m.L _ a];decide
 ·show false=D9 E m.L ((m.since+1:Nat):Int) m.L.length
  rw[Y6 E m.L _ a]
 ·have:=h.cyc k d;show k.cycle<=((m.since+1:Nat):Int)
  omega
def Jj(m:Bl):ByteArray:=if m.act=false then ⟨#[105,100,108,101]⟩ else if m.exp=true then ⟨#[101,120,112,105,114,101,100]⟩ else if 0<m.run then ⟨#[102,97,105,108,101,100]⟩ else ⟨#[111,107]⟩
theorem R6{P:Program}(w:V)(t ty e:TypeId)(i:TypeInfo)(E:P.underlying t=U (.slice e))(hi:P.info? e=U i)
  (g off f o:Nat) (l:Array ZE) (C:w.heap[g]? =U (ZC l e (0,0)))
  (a:Addr) (m c:Nat) (d:List ZE) (D:d.length=m*i.size) (p:∀j u,d[j]? =U u->w.cell? (a.add j)=U u) (h1:∀u∈d,u.oneCell'=true)
  (q:f+m<=o) (s:off+f*i.size+d.length<=l.size):
  (Builtin.append_ #[t,t] ty #[F (U ⟨g,off,O⟩) f o,F (U a) m c]).run P w=
   .ok (F (U ⟨g,off,O⟩) (f+m) o) (w.setRow g (l.toList.take (off+f*i.size)++d++l.toList.drop (off+f*i.size+d.length)).toArray):=by
 have A:=run_firstCells_some (P:=P) w i.size m a m c d D p;have y:=run_storeCells_at P g (off+f*i.size) e d 0 l w C (by simpa using s) h1;simp only[Zzw]at y;simp[Builtin.append_,run_underlying E,sizeOf,typeInfo,hi,Builtin.lenOf,q,A,Dt,y]
def Ax(w:V)(base:Nat)(e:TypeId)(size:Nat)(v:ZE)(n:Nat)(xs:List ZE):Prop:=
  xs.length=n*size/\
  ((v=F O 0 0/\n=0)\/
   ∃g off cap cur,v=F (U ⟨g,off,O⟩) n cap/\base<=g/\w.heap[g]? =U (ZC cur e (0,0))/\n<=cap/\cap<=maxLen/\off+cap*size<=cur.size/\(cur.toList.drop off).take (n*size)=xs)
section
variable {w w':V} {base:Nat} {e:TypeId} {size:Nat} {v:ZE} {n:Nat} {xs:List ZE}
theorem Ax.of_owns(h:w.ownsRow base e size v n xs):Ax w base e size v n xs:=by
 refine⟨h.1,?_⟩;rcases h.2 with j|⟨g,cap,a,h1,h2,h3,d,f,l,i⟩
 ·exact .inl j
 ·exact .inr ⟨g,0,cap,a,h1,h2,h3,d,f,by omega,by simpa using i⟩
theorem Ax.lt(h:Ax w base e size v n xs):∀k,v.ownBlock=U k->base<=k/\k<w.heap.size:=by
 intro k a;rcases h.2 with⟨rfl,_⟩|⟨g,off,cap,d,rfl,h2,h3,_⟩
 ·cases a
 ·obtain rfl:=Option.some.inj a;exact⟨h2,Aa h3⟩
theorem Ax.keep{S:Nat->Prop}(h:Ax w base e size v n xs)(k:Ac S w w')(d:∀b,v.ownBlock=U b->¬S b):Ax w' base e size v n xs:=by
 refine⟨h.1,?_⟩;rcases h.2 with f|⟨g,off,cap,a,rfl,h2,h3,rest⟩
 ·exact .inl f
 ·exact .inr ⟨g,off,cap,a,rfl,h2,k.get h3 (d g rfl),rest⟩
theorem Ax.later(h:Ax w base e size v n xs)(b:ZF w.heap.size w w'):Ax w' base e size v n xs:=
 h.keep (Ac.of_below b) (fun b a=>by have:=(h.lt b a).2;omega)
theorem Ax.slOf(h:Ax w base e size v n xs):Av (fun b=>base<=b/\v.ownBlock=U b) w v size xs n:=by
 refine⟨h.1,?_⟩;rcases h.2 with⟨rfl,rfl⟩|⟨g,off,cap,f,rfl,h2,h3,i,j,p,l⟩
 ·exact⟨O,0,rfl,Y2 _,by simp[maxLen],fun _=>rfl,fun o=>by have:=h.1;omega⟩
 ·refine⟨_,cap,rfl,i,j,(fun h=>by cases h),fun o=>⟨g,off,rfl,⟨h2,rfl⟩,Aa h3,fun k u a=>?_⟩⟩;have d:k<xs.length:=(List.getElem?_eq_some_iff.1 a).1;rw[<-l,List.getElem?_take_of_lt (by rw[h.1]at d;exact d),Zyu]at a;simp only[World.cell?,h3];simpa using a
theorem Ax.val(h:Ax w base e size v n xs):∃ao cap,v=F ao n cap:=by
 rcases h.2 with⟨rfl,rfl⟩|⟨g,off,cap,a,rfl,_⟩
 ·exact⟨_,_,rfl⟩
 ·exact⟨_,_,rfl⟩
theorem Ax.cells{g off cap:Nat}(h:Ax w base e size (F (U ⟨g,off,O⟩) n cap) n xs):∀j u,xs[j]? =U u->w.cell? ((⟨g,off,O⟩:Addr).add j)=U u:=by
 intro j u a;rcases h.2 with⟨h,_⟩|⟨s,i,d,l,q,h2,h3,t,y,A,p⟩
 ·cases h
 ·obtain⟨o,_,_⟩:=Value.slice.inj q;obtain⟨rfl,rfl,_⟩:=Addr.mk.inj (Option.some.inj o);have f:j<xs.length:=(List.getElem?_eq_some_iff.1 a).1;rw[<-p,List.getElem?_take_of_lt (by rw[h.1]at f;exact f),Zyu]at a;rw[Dt];simp only[World.cell?,h3];simpa using a
end
theorem Qr{P:Program}(w:V)(base:Nat)(t ty e:TypeId)(i:TypeInfo)(z:ZE)(size l:Nat)(Y:P.underlying t=U (.slice e))(hi:P.info? e=U i)(hz:i.zero=U z)
  (s:i.size=size) (E:i.bytes=l) (M:z.cells.size=size) (T:0<size)
  (v:ZE) (n:Nat) (xs:List ZE) (f:Ax w base e size v n xs)
  (a:Addr) (m c:Nat) (d:List ZE) (K:d.length=m*size) (p:∀j u,d[j]? =U u->w.cell? (a.add j)=U u) (h1:∀u∈d,u.oneCell'=true)
  (D:n+m<=maxLen) (o:(n+m)*l<=140737488355328) (C:base<=w.heap.size):
  ∃v' w',(Builtin.append_ #[t,t] ty #[v,F (U a) m c]).run P w=.ok v' w'/\Ax w' base e size v' (n+m) (xs++d)/\w.grownBy w' v.ownBlock/\(v'.ownBlock=v.ownBlock\/∀b,v'.ownBlock=U b->w.heap.size<=b):=by
 rcases f.2 with hv|⟨g,off,cap,A,rfl,ac,hg,ak,H,aj,L⟩
 ·obtain⟨rfl,rfl⟩:=hv;have ho:w.ownsRow base e size (F O 0 0) 0 xs:=⟨f.1,.inl ⟨rfl,rfl⟩⟩
  obtain⟨v',w',N,h2,h3,_⟩:=run_append_own (P:=P) w base t ty e i z size l Y hi hz s E M T _ 0 xs ho a m c d K p h1 D o C;refine⟨v',w',N,.of_owns h2,h3,.inr (fun b hb=>?_)⟩;have hx:xs= []:=H3 (by simpa using f.1);subst hx;have af:w.ownsRow w.heap.size e size (F O 0 0) 0 []:=Zzr _ _ _ _;obtain⟨v2,w2,S,aa,_⟩:=run_append_own (P:=P) w w.heap.size t ty e i z size l Y hi hz s E M T _ 0 [] af a m c d K p h1 D o (Y2 _);rw[N]at S;injection S with Z e2;subst Z;exact(aa.lt b hb).1
 ·subst s;subst E;have y:(xs++d).length=(n+m)*i.size:=by rw[R2,f.1,K,Zx6]
  by_cases q:n+m<=cap
  ·have R:(n+m)*i.size<=cap*i.size:=Zxw _ q;have Q:off+n*i.size+d.length<=A.size:=by rw[K];rw[Zx6]at R;omega
   have N:=R6 (P:=P) w t ty e i Y hi g off n cap A hg a m c d K p h1 q Q;refine⟨_,_,N,⟨y,.inr ⟨g,off,cap,_,rfl,ac,setRow_heap w g A _ e _ hg,q,H,?_,?_⟩⟩,⟨rfl,rfl,rfl,by simp,fun k _ hk=>setRow_other w g k _ (fun e=>hk (by simp[Value.ownBlock,e]))⟩,.inl rfl⟩
   ·simp only[Zxo,R2,By,B2,C2];omega
   ·have ho:off<=A.toList.length:=by rw[C2];omega
    have Z:A.toList.take (off+n*i.size)=A.toList.take off++xs:=by rw[<-L,<-List.take_add]
    rw[Z,Zy9];simp only[F6];rw[List.drop_append_of_le_length (by rw[By];omega),List.drop_eq_nil_of_le (by rw[By];omega),Zyp,<-F6,<-y];exact Zx7
  ·have X:n+m<=9223372036854775807:=by simp only[maxLen]at D;omega
   have N:=run_append_grow (P:=P) w t ty e i z Y hi hz ⟨g,off,O⟩ n cap xs f.1 f.cells a m c d K p (by omega) (by omega) (growslice_fits (by omega) o);have ad:=grownCap_ge w (n+m) cap e;have H:grownCap w (n+m) cap e<=maxLen:=grownCap_le_maxLen w (n+m) cap e D;refine⟨_,_,N,.of_owns ⟨y,.inr ⟨w.heap.size,_,_,rfl,C,heap_alloc_new w.drew _,ad,H,?_,?_⟩⟩,⟨rfl,rfl,rfl,by simp,fun k hk _=>Zyb _ _ _ hk⟩,.inr (fun b hb=>by obtain rfl:=Option.some.inj hb;exact Y2 _)⟩
   ·simp only[Array.size_append,Zxo,size_zeroCells,M,f.1,K,<-Zx6];congr 1;omega
   ·simp only[Zzq,F6];rw[<-F6,<-y];exact Zx7
theorem A3{P:Program}{w:V}{C:Array Oper}{rest:List Oper}{o:Oper}{a:Act}{Q:Exit->Act->V->Prop}(K:o.guard=O)(s x:Operand)(t:TypeId)
  (X:o.op=.call { callee:=.builtin .append,args:=#[s,x],argTypes:=#[t,t]})
  (base:Nat) (e:TypeId) (i:TypeInfo) (z:ZE) (size f:Nat) (ht:P.underlying t=U (.slice e)) (hi:P.info? e=U i) (hz:i.zero=U z)
  (q:i.size=size) (H:i.bytes=f) (N:z.cells.size=size) (M:0<size)
  (v:ZE) (n:Nat) (xs:List ZE) (Z:a.eval s=v) (A:Ax w base e size v n xs)
  (D:Addr) (m c:Nat) (d:List ZE) (hx:a.eval x=F (U D) m c) (T:d.length=m*size) (p:∀j u,d[j]? =U u->w.cell? (D.add j)=U u) (h1:∀u∈d,u.oneCell'=true)
  (E:n+m<=maxLen) (g:(n+m)*f<=140737488355328) (l:base<=w.heap.size)
  (h:∀ao cap w',Ax w' base e size (F ao (n+m) cap) (n+m) (xs++d)->w.grownBy w' v.ownBlock->((Value.slice ao (n+m) cap).ownBlock=v.ownBlock\/∀b,(Value.slice ao (n+m) cap).ownBlock=U b->w.heap.size<=b)->wpList P C Q rest (a.put o.dst (F ao (n+m) cap)) w'):
  wpList P C Q (o::rest) a w:=by
 refine wpList_plain K fun _ R=>?_;obtain⟨v',w',Y,y,S,L⟩:=Qr (P:=P) w base t o.type e i z size f ht hi hz q H N M v n xs A D m c d T p h1 E g l;obtain⟨ao,cap,rfl⟩:=y.val;unfold Oper.wp execOp;simp only[X,resolve,invoke,builtin,Sem.run_bind,Sem.run_pure,Result.andThen_ok,List.map_toArray,Zz1,Zzk,Z,hx,Y];exact R _ _ (h ao cap w' y S L)
theorem Dh{P:Program}{w:V}{C:Array Oper}{o:Oper}{a:Act}{K:Act->V->Prop}{Q:Exit->Act->V->Prop}{E:Prop}(M:o.guard=O)(s x:Operand)(t:TypeId)
  (Y:o.op=.call { callee:=.builtin .append,args:=#[s,x],argTypes:=#[t,t]})
  (base:Nat) (e:TypeId) (i:TypeInfo) (z:ZE) (size f:Nat) (ht:P.underlying t=U (.slice e)) (hi:P.info? e=U i) (hz:i.zero=U z)
  (q:i.size=size) (L:i.bytes=f) (S:z.cells.size=size) (R:0<size)
  (v:ZE) (n:Nat) (xs:List ZE) (hs:a.eval s=v) (A:Ax w base e size v n xs)
  (D:Addr) (m c:Nat) (d:List ZE) (hx:a.eval x=F (U D) m c) (X:d.length=m*size) (p:∀j u,d[j]? =U u->w.cell? (D.add j)=U u) (h1:∀u∈d,u.oneCell'=true)
  (H:n+m<=maxLen) (g:(n+m)*f<=140737488355328) (l:base<=w.heap.size)
  (h:∀ao cap w',Ax w' base e size (F ao (n+m) cap) (n+m) (xs++d)->w.grownBy w' v.ownBlock->((Value.slice ao (n+m) cap).ownBlock=v.ownBlock\/∀b,(Value.slice ao (n+m) cap).ownBlock=U b->w.heap.size<=b)->K (a.put o.dst (F ao (n+m) cap)) w'):
  if Region.wanted o (yielded C a.tmps)=true then Oper.wp P o a w K Q else E:=by
 have hw:Region.wanted o (yielded C a.tmps)=true:=by simp[Region.wanted,M]
 rw[if_pos hw];obtain⟨v',w',Z,y,T,N⟩:=Qr (P:=P) w base t o.type e i z size f ht hi hz q L S R v n xs A D m c d X p h1 H g l;obtain⟨ao,cap,rfl⟩:=y.val;unfold Oper.wp execOp;simp only[Y,resolve,invoke,builtin,Sem.run_bind,Sem.run_pure,Result.andThen_ok,List.map_toArray,Zz1,Zzk,hs,hx,Z];exact h ao cap w' y T N
theorem Ax.dropAt{w:V}{base:Nat}{e:TypeId}{size g off n cap:Nat}{xs:List ZE}(h:Ax w base e size (F (U ⟨g,off,O⟩) n cap) n xs)(lo:Nat)(o:lo<n):
  Ax w base e size (F (U ⟨g,off+lo*size,O⟩) (n-lo) (cap-lo)) (n-lo) (xs.drop (lo*size)):=by
 refine⟨by rw[B2,h.1,Nat.sub_mul],.inr ?_⟩;rcases h.2 with⟨h,_⟩|⟨q,f,d,a,p,h2,h3,s,t,u,l⟩
 ·cases h
 ·obtain⟨i,_,j⟩:=Value.slice.inj p;obtain⟨rfl,rfl,_⟩:=Addr.mk.inj (Option.some.inj i);subst j;have y:lo*size<=cap*size:=Zxw _ (by omega);refine⟨g,_,_,a,rfl,h2,h3,by omega,by omega,by rw[Nat.sub_mul];omega,?_⟩;rw[<-l,List.drop_take,Zyd,Nat.sub_mul]
