import Derived.Test.YtikehilbmldadaaGreatDoorP02
import Derived.Deep.DeepCutAuto
set_option maxHeartbeats 2000000
set_option maxRecDepth 100000
set_option linter.unusedVariables false
namespace Go.Proofs.YtikehilbmldadaaGreatDoor
open Proofs.Tryz YtikehilbmldadaaGreatDoor.Tryz RowKit
open Go renaming World->V,Calls->ZH,Value.int->I,IntKind.i64->J,Value.slice->F,Value.pointer->ZA,Value.string->ZB,Obj.cells->ZC,Ending.returned->ZD,Value.agg->ZJ,Value.bool->ZK,Value.tuple->ZM,Proofs.Tryz.prog->ZI
open Option renaming some->U,none->O
def Rb(c:Nat):Nat:=(c/2) ^^^ (if c%2=1 then 3988292384 else 0)
def I8:Nat->Nat->Nat
 |0,c=>c
 |k+1,c=>Rb (I8 k c)
def Ut(c:Nat)(b:UInt8):Nat:=I8 8 (c ^^^ b.toNat)
def Eo(l:List UInt8)(c:Nat):Nat:=l.foldl Ut c
def crc(l:List UInt8):Nat:=4294967295-Eo l 4294967295
theorem Ahk{c:Nat}(h:c<4294967296):Rb c<4294967296:=by
 unfold Rb;refine Zx1 (n:=32) (by omega) ?_;split<;>decide
theorem Zj{k c:Nat}(h:c<4294967296):I8 k c<4294967296:=by
 induction k with
 |zero=>exact h
 |succ k ih=>exact Ahk ih
theorem Ad5{c:Nat}{b:UInt8}(h:c<4294967296):Ut c b<4294967296:=by
 refine Zj (Zx1 (n:=32) h ?_);have:=b.toNat_lt;omega
theorem Tk:∀{l:List UInt8} {c:Nat},c<4294967296->Eo l c<4294967296
 |[],_,h=>h
 |b::l,c,h=>Tk (l:=l) (Ad5 h)
theorem Ad4(l:List UInt8):crc l<4294967296:=by unfold crc;omega
theorem tM(p:List UInt8)(x:UInt8)(c:Nat):Eo (p++ [x]) c=Ut (Eo p c) x:=by simp[Eo]
def Id(b:Nat):Nat->Nat->Nat
 |0,c=>c
 |k+1,c=>(Id b k c/2) ^^^ (if (Id b k c ^^^ (b>>>k))%2=1 then 3988292384 else 0)
theorem Ahw(x y:Nat):(x ^^^ y)/2=x/2 ^^^ y/2:=by
 have:=Nat.shiftRight_xor_distrib (a:=x) (b:=y) (i:=1);simpa [Nat.shiftRight_succ] using this
theorem X8(b c:Nat):∀k,I8 k (c ^^^ b)=Id b k c ^^^ (b>>>k)
 |0=>by simp[I8,Id]
 |k+1=>by
  unfold I8 Id
  rw[X8 b c k]
  unfold Rb
  rw[Ahw,show b>>>k/2=b>>>(k+1)from by rw[Nat.shiftRight_succ]]
  rw[Nat.xor_assoc,Nat.xor_comm (b>>>(k+1)),<-Nat.xor_assoc]
theorem Afx(b:UInt8)(c:Nat):Id b.toNat 8 c=Ut c b:=by
 have h:=X8 b.toNat c 8;have h0:b.toNat>>>8=0:=by
  rw[Zxq];have:=b.toNat_lt;exact Nat.div_eq_of_lt this
 rw[h0,Nat.xor_zero]at h;exact h.symm
theorem Abr{b c k:Nat}(h:c<4294967296):Id b k c<4294967296:=by
 induction k with
 |zero=>exact h
 |succ k ih=>
  unfold Id;refine Zx1 (n:=32) (by omega) ?_;split<;>decide
def beB:Nat->Nat->List UInt8
 |0,_=>[]
 |m+1,n=>beB m (n/256)++ [UInt8.ofNat n]
theorem Cz:∀m n,(beB m n).length=m
 |0,_=>rfl
 |m+1,n=>by simp[beB,Cz m]
def Ez(l:List UInt8):Nat:=l.foldl (fun n b=>256*n+b.toNat) 0
theorem S7(l:List UInt8)(b:UInt8):Ez (l++ [b])=256*Ez l+b.toNat:=by simp[Ez]
theorem N8:∀m n,Ez (beB m n)=n%256 ^ m
 |0,n=>by simp[beB,Ez,Nat.mod_one]
 |m+1,n=>by
  have e:n%256 ^ (m+1)=n%256+256*(n/256%256 ^ m):=by rw[Zx9,Nat.mul_comm,Nat.mod_mul]
  rw[beB,S7,N8 m,UInt8.toNat_ofNat',e]
  omega
theorem Gj(l:List UInt8):Ez l<256 ^ l.length:=by
 rcases List.eq_nil_or_concat l with rfl|⟨p,b,rfl⟩
 ·decide
 ·have a:=Gj p;rw[List.concat_eq_append,S7,R2,G3,Zx9];have:=b.toNat_lt;omega
termination_by l.length
decreasing_by all_goals(subst_vars;simp)
structure Ap where
 seq:Nat
 ent:Nat
 kind:Nat
 tick:Nat
deriving DecidableEq,Inhabited
structure Kv (r:Ap):Prop where
 s1:1<=r.seq
 s2:r.seq<4294967296
 e:r.ent<256
 k:r.kind<256
 t:r.tick<281474976710656
def Cg(r:Ap):List UInt8:=beB 4 r.seq++beB 1 r.ent++beB 1 r.kind++beB 6 r.tick
def A0(r:Ap):List UInt8:=Cg r++beB 4 (crc (Cg r))
theorem Ip(r:Ap):(Cg r).length=12:=by simp[Cg,Cz]
theorem B7(r:Ap):(A0 r).length=16:=by simp[A0,Ip,Cz]
def Nf(s:List UInt8):Ap:=⟨Ez (s.take 4),Ez ((s.drop 4).take 1),Ez ((s.drop 5).take 1),Ez ((s.drop 6).take 6)⟩
theorem Ain(s:List UInt8)(h:1<=(Nf s).seq):Kv (Nf s):=by
 have h1:=Gj (s.take 4);have h2:=Gj ((s.drop 4).take 1);have h3:=Gj ((s.drop 5).take 1);have a:=Gj ((s.drop 6).take 6);have d:256 ^ (s.take 4).length<=256 ^ 4:=Zza (by decide) (by simp;omega);have e:256 ^ ((s.drop 4).take 1).length<=256 ^ 1:=Zza (by decide) (by simp;omega);have f:256 ^ ((s.drop 5).take 1).length<=256 ^ 1:=Zza (by decide) (by simp;omega);have g:256 ^ ((s.drop 6).take 6).length<=256 ^ 6:=Zza (by decide) (by simp;omega);exact⟨h,by show Ez (s.take 4)<_;omega,by show Ez ((s.drop 4).take 1)<_;omega,by show Ez ((s.drop 5).take 1)<_;omega,by show Ez ((s.drop 6).take 6)<_;omega⟩
theorem Abt(r:Ap)(h:Kv r)(t:List UInt8):Nf (A0 r++t)=r:=by
 have l:=Cz 4 r.seq;have i:=Cz 1 r.ent;have j:=Cz 1 r.kind;have o:=Cz 6 r.tick;obtain⟨A,a⟩:∃A,A=beB 4 r.seq:=⟨_,rfl⟩
 obtain⟨B,d⟩:∃B,B=beB 1 r.ent:=⟨_,rfl⟩
 obtain⟨C,f⟩:∃C,C=beB 1 r.kind:=⟨_,rfl⟩
 obtain⟨D,g⟩:∃D,D=beB 6 r.tick:=⟨_,rfl⟩
 have e:A0 r++t=A++(B++(C++(D++(beB 4 (crc (Cg r))++t)))):=by simp[A0,Cg,a,d,f,g]
 rw[e];rw[<-a]at l;rw[<-d]at i;rw[<-f]at j;rw[<-g]at o;have d0:(A++(B++(C++(D++(beB 4 (crc (Cg r))++t))))).take 4=A:=by rw[<-l];exact Zx7
 have d4:(A++(B++(C++(D++(beB 4 (crc (Cg r))++t))))).drop 4=B++(C++(D++(beB 4 (crc (Cg r))++t))):=by rw[<-l];exact List.drop_left
 have n:(A++(B++(C++(D++(beB 4 (crc (Cg r))++t))))).drop 5=C++(D++(beB 4 (crc (Cg r))++t)):=by
  rw[show(5:Nat)=4+1 from rfl,<-Zyd,d4,<-i];exact List.drop_left
 have p:(A++(B++(C++(D++(beB 4 (crc (Cg r))++t))))).drop 6=D++(beB 4 (crc (Cg r))++t):=by
  rw[show(6:Nat)=5+1 from rfl,<-Zyd,n,<-j];exact List.drop_left
 have q:(B++(C++(D++(beB 4 (crc (Cg r))++t)))).take 1=B:=by rw[<-i];exact Zx7
 have s:(C++(D++(beB 4 (crc (Cg r))++t))).take 1=C:=by rw[<-j];exact Zx7
 have u:(D++(beB 4 (crc (Cg r))++t)).take 6=D:=by rw[<-o];exact Zx7
 unfold Nf;rw[d0,d4,n,p,q,s,u,a,d,f,g,N8,N8,N8,N8];have v:=h.s2;have y:=h.e;have E:=h.k;have H:=h.t;rw[Zy4 (show r.seq<256 ^ 4 by omega),Zy4 (show r.ent<256 ^ 1 by omega),Zy4 (show r.kind<256 ^ 1 by omega),Zy4 (show r.tick<256 ^ 6 by omega)]
def Do(k:Nat)(s:List UInt8):Option Ap:=
 if 1<=(Nf s).seq/\((Nf s).seq-1)%9=k/\A0 (Nf s)++ [165]=s then U (Nf s) else O
theorem Ps{k:Nat}{s:List UInt8}{r:Ap}(h:Do k s=U r):Kv r/\(r.seq-1)%9=k/\A0 r++ [165]=s:=by
 unfold Do at h;split at h
 ·rename_i hc;obtain rfl:=Option.some.inj h;exact⟨Ain s hc.1,hc.2.1,hc.2.2⟩
 ·cases h
theorem sR(r:Ap)(h:Kv r)(k:Nat)(a:(r.seq-1)%9=k):Do k (A0 r++ [165])=U r:=by
 unfold Do;rw[Abt r h [165]];rw[if_pos ⟨h.s1,a,rfl⟩]
theorem sQ{k:Nat}{s:List UInt8}(h:s[16]? ≠U 165):Do k s=O:=by
 cases a:Do k s with
 |none=>rfl
 |some r=>
  obtain⟨_,_,e⟩:=Ps a;exfalso;apply h;rw[<-e,Zzs (by rw[B7];exact Y2 _),B7];rfl
def Bg(b:List UInt8)(k:Nat):Option Ap:=Do k ((b.drop (k*17)).take 17)
def HOk(H:Nat->Option Ap):Prop:=∀k r,H k=U r->Kv r/\(r.seq-1)%9=k
theorem Lc(b:List UInt8):HOk (Bg b):=fun k r h=>⟨(Ps h).1,(Ps h).2.1⟩
def Nd(H:Nat->Option Ap)(k:Nat):Nat:=match H k with|some r=>r.seq|none=>0
def Ew(H:Nat->Option Ap):Nat->Nat
 |0=>0
 |n+1=>max (Ew H n) (Nd H n)
def Ey(H:Nat->Option Ap):Nat->Nat->List Ap
 |0,_=>[]
 |_,0=>[]
 |f+1,s+1=>match H (s%9)with
  |some r=>if r.seq=s+1 then Ey H f s++ [r] else []
  |none=>[]
def Fg(b:List UInt8):List Ap:=Ey (Bg b) 8 (Ew (Bg b) 9)
theorem sI(H:Nat->Option Ap){k r:Nat}{x:Ap}(a:H k=U x):∀n,k<n->x.seq<=Ew H n
 |0,h=>by omega
 |n+1,h=>by
  unfold Ew
  by_cases e:k=n
  ·subst e
   have:Nd H k=x.seq:=by simp[Nd,a]
   omega
  ·have:=sI H (r:=r) a n (by omega)
   omega
theorem Uw(H:Nat->Option Ap):∀n,Ew H n=0\/∃k x,k<n/\H k=U x/\x.seq=Ew H n
 |0=>.inl rfl
 |n+1=>by
  unfold Ew
  rcases Uw H n with h0|⟨k,x,h1,h2,h3⟩
  ·rw[h0,Nat.zero_max]
   cases hh:H n with
   |none=>left;simp[Nd,hh]
   |some y=>right;exact⟨n,y,by omega,hh,by simp[Nd,hh]⟩
  ·by_cases hle:Nd H n<=Ew H n
   ·right;exact⟨k,x,by omega,h2,by omega⟩
   ·right
    cases hh:H n with
    |none=>simp[Nd,hh]at hle
    |some y=>
     have:Nd H n=y.seq:=by simp[Nd,hh]
     exact⟨n,y,by omega,hh,by omega⟩
theorem Sx(H:Nat->Option Ap):∀(f s:Nat) (M:List Ap),M.length<=f->(∀j (hj:j<M.length),1<=M[j].seq/\H ((M[j].seq-1)%9)=U M[j]/\M[j].seq+(M.length-1-j)=s)->
  (M.length=f\/s=M.length\/(M.length<s/\∀r,H ((s-M.length-1)%9)=U r->r.seq≠s-M.length))->Ey H f s=M
 |0,s,M,hf,_,_=>by
  obtain rfl:=H3 (show M.length=0 by omega)
  simp[Ey]
 |f+1,0,M,hf,hM,_=>by
  cases M with
  |nil=>simp[Ey]
  |cons a M=>
   have:=hM 0 (by simp)
   omega
 |f+1,s+1,M,hf,hM,hstop=>by
  rcases List.eq_nil_or_concat M with rfl|⟨d,r,rfl⟩
  ·unfold Ey
   simp at hstop
   cases l:H (s%9)with
   |none=>rfl
   |some y=>simp only;rw[if_neg (hstop y l)]
  ·rw[List.concat_eq_append]at hM hf hstop ⊢
   simp only[R2,G3]at hM hf hstop
   have e:=hM d.length (by omega)
   rw[Zys (by omega)]at e
   simp only[Nat.sub_self,List.getElem_singleton]at e
   have o:r.seq=s+1:=by omega
   unfold Ey
   rw[show s=r.seq-1 by omega,e.2.1]
   simp only
   rw[if_pos (by omega)]
   congr 1
   refine Sx H f (r.seq-1) d (by omega) (fun j hj=>?_) ?_
   ·have:=hM j (by omega)
    rw[Zzd hj]at this
    exact⟨this.1,this.2.1,by omega⟩
   ·rcases hstop with h|h|⟨h,i⟩
    ·left;omega
    ·right;left;omega
    ·right;right
     refine⟨by omega,fun n g=>?_⟩
     have:=i n (by rw[show s+1-(d.length+1)-1=r.seq-1-d.length-1 by omega];exact g)
     omega
theorem wK(H:Nat->Option Ap)(M:HOk H)(y:∀k,9<=k->H k=O)(L:List Ap)(d:∀r,r∈L↔∃k,H k=U r)(N:L.Pairwise (fun a b=>a.seq<b.seq))(i:Nat)(hi:i<=L.length)(h8:L.length-i<=8)
  (f:∀j (h1:i<=j) (h2:j<L.length),L[j].seq+(L.length-1-j)=(L.getLast?.map (·.seq)).getD 0) (hne:L≠ []->i<L.length)
  (p:i=0\/L.length-i=8\/∃(h0:0<i) (h1:i-1<L.length) (h2:i<L.length),L[i-1].seq+1≠L[i].seq):Ey H 8 (Ew H 9)=L.drop i:=by
 have l:Ew H 9=(L.getLast?.map (·.seq)).getD 0:=by
  cases v:L.getLast? with
  |none=>
   have:L= []:=by simpa using v
   subst this;rcases Uw H 9 with h|⟨k,x,h1,h2,h3⟩
   ·simpa using h
   ·have:=(d x).2 ⟨k,h2⟩;cases this
  |some z=>
   have K:z∈L:=List.mem_of_getLast? v;obtain⟨k,n⟩:=(d z).1 K;have B:k<9:=Nat.lt_of_not_le (fun h=>by rw[y k h]at n;cases n);have h1:=sI H (r:=0) n 9 B;rcases Uw H 9 with h|⟨Z,x,q1,q2,q3⟩
   ·have:=(M k z n).1.s1;omega
   ·have E:=(d x).2 ⟨Z,q2⟩;have T:x.seq<=z.seq:=by
     obtain⟨j,g,rfl⟩:=List.mem_iff_getElem.1 E;have Y:z=L[L.length-1]'(by omega):=by
      rw[Zyt,R4 (by omega)]at v;exact(Option.some.inj v).symm
     rw[Y];by_cases e:j=L.length-1
     ·subst e;exact Y2 _
     ·exact Zyi (List.pairwise_iff_getElem.1 N j (L.length-1) g (by omega) (by omega))
    simp;omega
 rw[l];have s:∀j (g:j<L.length),1<=L[j].seq/\H ((L[j].seq-1)%9)=U L[j]:=fun j g=>by
  obtain⟨k,n⟩:=(d L[j]).1 (M2 g);have:=M k _ n;exact⟨this.1.s1,by rw[this.2];exact n⟩
 refine Sx H 8 _ (L.drop i) (by simp;omega) (fun j g=>?_) ?_
 ·simp only[B2]at g;rw[List.getElem_drop];have h1:=s (i+j) (by omega);have h2:=f (i+j) (by omega) (by omega);refine⟨h1.1,h1.2,?_⟩;rw[B2];omega
 ·rw[B2];by_cases q:L= []
  ·subst q;right;left;simp
  have u:=hne q;have h0:=f i (Y2 _) u;have hp:=(s i u).1;rcases p with h|h|⟨R,h1,h2,h3⟩
  ·subst h;by_cases S:(L.getLast?.map (·.seq)).getD 0=L.length
   ·right;left;omega
   ·right;right;refine⟨by omega,fun r C D=>?_⟩;have o:=(d r).2 ⟨_,C⟩;obtain⟨j,g,rfl⟩:=List.mem_iff_getElem.1 o;have:=f j (In _) g;omega
  ·left;omega
  ·right;by_cases S:(L.getLast?.map (·.seq)).getD 0=L.length-i
   ·left;omega
   ·right;refine⟨by omega,fun r C D=>?_⟩;have o:=(d r).2 ⟨_,C⟩;obtain⟨j,g,rfl⟩:=List.mem_iff_getElem.1 o;by_cases A:i<=j
    ·have:=f j A g;omega
    ·have Q:=fun(a b:Nat) (ha:a<L.length) (hb:b<L.length) (hab:a<b)=>List.pairwise_iff_getElem.1 N a b ha hb hab;have X:=Q (i-1) i h1 h2 (by omega);by_cases e:j=i-1
     ·subst e;omega
     ·have:=Q j (i-1) g h1 (by omega);omega
def P7(cnt:Int)(pl:Nat):Int:=if cnt<0\/(pl:Int)<=cnt then -1 else cnt
def Iu(p mn mx c:Int):Obj:=ZC #[I J p,I J mn,I J mx,I J c] 246
theorem Aed(nm g d f l:Value)(t cnt mn mx:Int)(a:Option Addr)(pl i:Nat)(w:V):
  ZH ZI 89 #[ZJ #[nm,I J t,F a pl i,I J cnt,I J mn,I J mx,g,d,f,l]] w fun e w'=>
   e=ZD (ZA (U ⟨w.heap.size+1,0,O⟩))/\
   (w.alloc (ZC #[nm,I J t,F a pl i,I J cnt,I J mn,I J mx,g,d,f,l] 50)).alloc (Iu (P7 cnt pl) mn mx 0)=w':=by
 go_enter func89,ntmps89;go_wp2;all_goals go_ret
 ·rename_i h1 h2;exact⟨rfl,by simp[Iu,P7,h2]⟩
 ·rename_i h1 h2;exact⟨rfl,by rw[P7,if_neg (by omega)];rfl⟩
 ·rename_i h1;exact⟨rfl,by simp[Iu,P7,h1]⟩
theorem tT(nm g d f l:Value)(t cnt mn mx:Int)(a:Option Addr)(pl i:Nat)(w:V):
  ZH ZI 89 #[ZJ #[nm,I J t,F a pl i,I J cnt,I J mn,I J mx,g,d,f,l]] w fun e w'=>
   ∃b,e=ZD (ZA (U ⟨b,0,O⟩))/\w.heap.size<=b/\w'.heap[b]? =U (Iu (P7 cnt pl) mn mx 0)/\Below w.heap.size w w':=by
 refine(Aed nm g d f l t cnt mn mx a pl i w).mono ?_;rintro e w' ⟨rfl,rfl⟩;refine⟨_,rfl,by omega,?_,((R1 _ _).alloc (Y2 _) _).alloc (by simp) _⟩;have:=Ab (w.alloc (ZC #[nm,I J t,F a pl i,I J cnt,I J mn,I J mx,g,d,f,l] 50)) (Iu (P7 cnt pl) mn mx 0);simpa using this
theorem Wz{w:V}{b:Nat}{p mn mx c:Int}(h:w.heap[b]? =U (Iu p mn mx c)):
  w.cell? ⟨b,0,O⟩=U (I J p)/\w.cell? ⟨b,1,O⟩=U (I J mn)/\w.cell? ⟨b,2,O⟩=U (I J mx)/\w.cell? ⟨b,3,O⟩=U (I J c)/\w.frozen? ⟨b,3,O⟩=false:=by
 unfold Iu at h;simp[World.cell?,World.frozen?,h]
theorem Xh(b:Nat)(p c:Int)(w:V)(h0:w.cell? ⟨b,0,O⟩=U (I J p))(h3:w.cell? ⟨b,3,O⟩=U (I J c))(f:w.frozen? ⟨b,3,O⟩=false)(g:0<=p)(d:0<=c)(a:c<=1000):
  ZH ZI 92 #[ZA (U ⟨b,0,O⟩),I J p] w fun e w'=>
   e=ZD (ZM #[])/\w.setCell ⟨b,3,O⟩ (I J (min 1000 (c+1)))=w':=by
 go_enter func92,ntmps92;go_wp2
 ·go_end0;refine⟨rfl,?_⟩;rw[show min (1000:Int) (c+1)=c+1 from by omega]
 ·go_end0;refine⟨rfl,?_⟩;rw[show min (1000:Int) (c+1)=1000 from by omega]
theorem V1(b:Nat)(p q:Int)(w:V)(h0:w.cell? ⟨b,0,O⟩=U (I J p))(a:p<0\/(q==p)=false):
  ZH ZI 92 #[ZA (U ⟨b,0,O⟩),I J q] w fun e w'=>
   e=ZD (ZM #[])/\w=w':=by
 by_cases d:p<0
 ·clear a;go_enter func92,ntmps92;go_wp2;all_goals go_end0
  all_goals exact⟨rfl,rfl⟩
 ·have f:=a.resolve_left d;clear a;go_enter func92,ntmps92;go_wp2;all_goals go_end0
  all_goals exact⟨rfl,rfl⟩
def I9(p c q:Int):Int:=if 0<=p/\q=p then min 1000 (c+1) else c
theorem Xi(b:Nat)(p mn mx c q:Int)(w:V)(h:w.heap[b]? =U (Iu p mn mx c))(g:0<=c)(d:c<=1000):
  ZH ZI 92 #[ZA (U ⟨b,0,O⟩),I J q] w fun e w'=>
   e=ZD (ZM #[])/\w'.heap[b]? =U (Iu p mn mx (I9 p c q))/\Ac (· =b) w w':=by
 obtain⟨h0,h1,h2,h3,i⟩:=Wz h;by_cases f:0<=p/\q=p
 ·obtain⟨a,rfl⟩:=f;refine(Xh b q c w h0 h3 i a g d).mono ?_;rintro e w' ⟨rfl,rfl⟩;refine⟨rfl,?_,Af _ _ _ _⟩;rw[Ah _ h];simp[Iu,I9,a]
 ·refine(V1 b p q w h0 ?_).mono ?_
  ·by_cases j:p<0
   ·exact .inl j
   ·exact .inr (by simp;omega)
  ·rintro e w' ⟨rfl,rfl⟩;exact⟨rfl,by rw[I9,if_neg f];exact h,Ac.refl _ _⟩
def Ih(p mn mx c:Int)(whole:Bool):Bool:=decide (p<0)|| !whole||(decide (mn<=c)&&decide (c<=mx))
theorem Aee(b:Nat)(p mn mx c:Int)(wh:Bool)(w:V)(h0:w.cell? ⟨b,0,O⟩=U (I J p))(h1:w.cell? ⟨b,1,O⟩=U (I J mn))(h2:w.cell? ⟨b,2,O⟩=U (I J mx))
  (h3:w.cell? ⟨b,3,O⟩=U (I J c)) (a:w.frozen? ⟨b,3,O⟩=false):
  ZH ZI 236 #[ZA (U ⟨b,0,O⟩),ZK wh] w fun e w'=>e=ZD (ZK (Ih p mn mx c wh))/\w.setCell ⟨b,3,O⟩ (I J 0)=w':=by
 cases wh
 ·go_enter func236,ntmps236;go_wp2;all_goals go_ret
  all_goals exact⟨by simp[Ih, *]<;>omega,rfl⟩
 ·by_cases f:p<0
  ·go_enter func236,ntmps236;go_wp2;all_goals go_ret
   all_goals exact⟨by simp[Ih, *]<;>omega,rfl⟩
  ·by_cases d:mn<=c
   ·go_enter func236,ntmps236;go_wp2;all_goals go_ret
    all_goals exact⟨by simp[Ih, *]<;>omega,rfl⟩
   ·go_enter func236,ntmps236;go_wp2;all_goals go_ret
    all_goals exact⟨by simp[Ih, *]<;>omega,rfl⟩
theorem tU(b:Nat)(p mn mx c:Int)(wh:Bool)(w:V)(h:w.heap[b]? =U (Iu p mn mx c)):
  ZH ZI 236 #[ZA (U ⟨b,0,O⟩),ZK wh] w fun e w'=>e=ZD (ZK (Ih p mn mx c wh))/\w'.heap[b]? =U (Iu p mn mx 0)/\Ac (· =b) w w':=by
 obtain⟨h0,h1,h2,h3,a⟩:=Wz h;refine(Aee b p mn mx c wh w h0 h1 h2 h3 a).mono ?_;rintro e w' ⟨rfl,rfl⟩;exact⟨rfl,by rw[Ah _ h];simp[Iu],Af _ _ _ _⟩
def Fj:List (ByteArray × Nat × ByteArray):=[(⟨#[119,105,110,100,111,119]⟩,0,⟨#[110,110]⟩),(⟨#[99,121,99,108,101]⟩,1,⟨#[110]⟩),(⟨#[100,101,108,97,121]⟩,2,⟨#[110]⟩),(⟨#[101,110,116,105,116,121]⟩,3,⟨#[115,110]⟩),
 (⟨#[112,111,105,110,116]⟩,4,⟨#[115]⟩),(⟨#[99,111,117,110,116]⟩,5,⟨#[112,110,110]⟩),(⟨#[103,97,112]⟩,6,⟨#[112,112,110,110]⟩),(⟨#[101,100,103,101]⟩,7,⟨#[112,112]⟩),(⟨#[102,105,114,115,116]⟩,8,⟨#[112]⟩),(⟨#[108,97,115,116]⟩,9,⟨#[112]⟩)]
def Sg(p:Nat × ByteArray):Value:=ZJ #[I J p.1,ZB p.2]
def Kp(s:ByteArray):Option (Nat × ByteArray):=(Fj.find? (fun p=>p.1.data.toList==s.data.toList)).map (·.2)
def Ca(s:ByteArray):Nat:=((Kp s).map (·.1)).getD 0
def Cm(s:ByteArray):ByteArray:=((Kp s).map (·.2)).getD ByteArray.empty
def Ia(s:ByteArray):Bool:=(Kp s).isSome
def Lu(L:List (ByteArray × Nat × ByteArray)):List MapEntry:=(L.zipIdx).map (fun x=>⟨ZB x.1.1,Sg x.1.2,x.2⟩)
def H9(W:V)(k:Nat):V:=W.alloc (.map (Lu (Fj.take k)).toArray k)
theorem pP(W:V)(k:Nat):(H9 W k).heap[W.heap.size]? =U (.map (Lu (Fj.take k)).toArray k):=Ab _ _
theorem Zf(L:List (ByteArray × Nat × ByteArray)):∀x∈Lu L,MapKept.IsKey .string x.key:=by
 intro x a;obtain⟨p,d,rfl⟩:=List.mem_map.1 a;trivial
theorem Afh(W:V)(o o':Obj):({ W.alloc o with heap:=(W.alloc o).heap.setIfInBounds W.heap.size o'}:V)=W.alloc o':=by
 have e:∀o:Obj,(W.alloc o)= { W with heap:=W.heap.push o}:=fun _=>rfl;rw[e,e];show({ heap:=(W.heap.push o).setIfInBounds W.heap.size o',tape:=W.tape,drawn:=W.drawn,os:=W.os,output:=W.output}:V)= { heap:=W.heap.push o',tape:=W.tape,drawn:=W.drawn,os:=W.os,output:=W.output}
 congr 1;apply Array.ext_getElem?;intro i;simp only[Zy8,Array.getElem?_push,Array.size_push];by_cases h:W.heap.size=i
 ·subst h;simp
 ·rw[if_neg h,if_neg (fun a=>h a.symm),if_neg (fun a=>h a.symm)]
section
variable {P:Program} {m t b:TypeId} (um:P.underlying m=U (.map t b)) (ut:P.underlying t=U .string)
include um ut
theorem Jp(W:V)(k:Nat)(y:k<10)(p:ByteArray × Nat × ByteArray)(n:Fj[k]? =U p):
  (Instr.mapUpdate m (.map (U W.heap.size)) (ZB p.1) (Sg p.2)).run P (H9 W k)=.ok () (H9 W (k+1)):=by
 have g:=pP W k;have v:=MapKept.run_getObj_map (P:=P) g;have C:=fun o=>MapKept.run_setObj_map (P:=P) o g;have s:=MapKept.run_checkKey (P:=P) (w:=H9 W k) ut (k:=ZB p.1) trivial false 9999;have u:Instr.findNow .string (ZB p.1) (Lu (Fj.take k)) 0=U O:=by
  rcases MapKept.findNow_spec (d:=.string) (k:=ZB p.1) trivial (Lu (Fj.take k)) 0 (Zf _)with⟨h,_⟩|⟨j,e,h1,h2,h3⟩
  ·exact h
  ·exfalso;have A:∀k:Fin 10,∀j:Fin 10,j.1<k.1->(Fj.getD j.1 (ByteArray.empty,0,ByteArray.empty)).1.data.toList≠(Fj.getD k.1 (ByteArray.empty,0,ByteArray.empty)).1.data.toList:=by decide
   have i:j<k/\e.key=ZB (Fj.getD j (ByteArray.empty,0,ByteArray.empty)).1:=by
    simp only[Lu,Zzl,List.getElem?_zipIdx,Zyv,Option.map_map]at h2;by_cases a:j<k
    ·rw[if_pos a]at h2;obtain⟨q,B,rfl⟩:=Option.map_eq_some_iff.1 h2;exact⟨a,by rw[Of,B];rfl⟩
    ·rw[if_neg a]at h2;cases h2
   have:=A ⟨k,y⟩ ⟨j,by omega⟩ i.1;rw[i.2]at h3;apply this;rw[Value.string.inj h3,Of,n];rfl
 have f:=MapKept.run_findKey (P:=P) (w:=H9 W k) (l:=(Lu (Fj.take k)).toArray.toList) ut (by simpa using u);unfold Instr.mapUpdate;simp only[run_underlying um,v,s,f,C,Sem.run_bind,Result.andThen_ok];rw[show(H9 W k)=W.alloc (.map (Lu (Fj.take k)).toArray k)from rfl,Afh];show _=Result.ok () (W.alloc (.map (Lu (Fj.take (k+1))).toArray (k+1)))
 congr 3;rw[List.take_add_one,n];simp[Lu,List.zipIdx_append];rw[show Fj.length=10 from rfl];omega
theorem Ag8(E:∀w:V,(zeroValue b).run P w=.ok (Sg (0,ByteArray.empty)) w)(W:V)(s:ByteArray):
  (Instr.lookup m (.map (U W.heap.size)) (ZB s) true).run P (H9 W 10)=.ok (ZM #[Sg (Ca s,Cm s),ZK (Ia s)]) (H9 W 10):=by
 have v:=pP W 10;have p:=MapKept.run_getObj_map (P:=P) v;have u:=fun e=>MapKept.run_checkKey (P:=P) (w:=H9 W 10) ut (k:=ZB s) trivial e 9999;have o:Fj.take 10=Fj:=rfl;rw[o]at p;have a:(Instr.findNow .string (ZB s) (Lu Fj) 0=U O/\Kp s=O)\/∃j q,Instr.findNow .string (ZB s) (Lu Fj) 0=U (U (j,Sg q))/\Kp s=U q:=by
  rcases MapKept.findNow_spec (d:=.string) (k:=ZB s) trivial (Lu Fj) 0 (Zf _)with⟨h1,h2⟩|⟨j,e,h1,h2,h3⟩
  ·refine .inl ⟨h1,?_⟩;unfold Kp;rw[Option.map_eq_none_iff,Zx3];intro q n;obtain⟨i,hi,rfl⟩:=List.mem_iff_getElem.1 n;have B:(⟨ZB Fj[i].1,Sg Fj[i].2,i⟩:MapEntry)∈Lu Fj:=List.mem_map.2 ⟨(Fj[i],i),by rw[List.mem_zipIdx_iff_getElem?];exact R4 hi,rfl⟩;have hne:=h2 _ B;intro y;apply hne;have:=eq_of_beq y;show Value.string Fj[i].1=_
   congr 1;cases D:Fj[i].1;cases s;rw[D]at this;exact congrArg ByteArray.mk (Array.toList_inj.1 this)
  ·simp only[Lu,Zzl,List.getElem?_zipIdx,Option.map_map]at h2;obtain⟨q,n,rfl⟩:=Option.map_eq_some_iff.1 h2;refine .inr ⟨0+j,q.2,h1,?_⟩;have C:q.1=s:=Value.string.inj h3;have g:∀j:Fin 10,Kp (Fj.getD j.1 (ByteArray.empty,0,ByteArray.empty)).1=U (Fj.getD j.1 (ByteArray.empty,0,ByteArray.empty)).2:=by decide
   have A:j<10:=(List.getElem?_eq_some_iff.1 n).1;have:=g ⟨j,A⟩;rw[Of,n]at this;rw[<-C];exact this
 unfold Instr.lookup;rcases a with⟨h1,h2⟩|⟨j,q,h1,h2⟩
 ·have f:=MapKept.run_findKey (P:=P) (w:=H9 W 10) (l:=(Lu Fj).toArray.toList) ut (by simpa using h1);simp[run_underlying um,p,u,f,E,Sem.run_bind,Result.andThen_ok,Ca,Cm,Ia,h2]
 ·have f:=MapKept.run_findKey (P:=P) (w:=H9 W 10) (l:=(Lu Fj).toArray.toList) ut (by simpa using h1);simp[run_underlying um,p,u,f,Sem.run_bind,Result.andThen_ok,Ca,Cm,Ia,h2]
end
def Cb(st:Int)(k:Nat):Bool:=
 if k<=2 then st==(k:Int)-1 else if k=3 then decide (2<=st) else if k=5 then (st==3||st==4) else decide (3<=st)&&decide (st<=(k:Int))
theorem Abo(st:Int)(rb:Nat)(w:V)(h:w.cell? ⟨rb,5,O⟩=U (I J st)):ZH ZI 111 #[ZA (U ⟨rb,0,O⟩),I J 0] w fun e w'=>e=ZD (ZK (Cb st 0))/\w=w':=by
 have a:=G (show Cb st 0=(st== -1)from rfl);obtain⟨z,d⟩:∃z,(st== -1)=z:=⟨_,rfl⟩
 rw[d]at a;go_enter func111,ntmps111;go_wp2_with fail;go_ret;exact⟨Am a.symm,rfl⟩
theorem Abn(st:Int)(rb:Nat)(w:V)(h:w.cell? ⟨rb,5,O⟩=U (I J st)):ZH ZI 111 #[ZA (U ⟨rb,0,O⟩),I J 1] w fun e w'=>e=ZD (ZK (Cb st 1))/\w=w':=by
 have a:=G (show Cb st 1=(st==0)from rfl);obtain⟨z,d⟩:∃z,(st==0)=z:=⟨_,rfl⟩
 rw[d]at a;go_enter func111,ntmps111;go_wp2_with fail;go_ret;exact⟨Am a.symm,rfl⟩
theorem Abm(st:Int)(rb:Nat)(w:V)(h:w.cell? ⟨rb,5,O⟩=U (I J st)):ZH ZI 111 #[ZA (U ⟨rb,0,O⟩),I J 2] w fun e w'=>e=ZD (ZK (Cb st 2))/\w=w':=by
 have a:=G (show Cb st 2=(st==1)from rfl);obtain⟨z,d⟩:∃z,(st==1)=z:=⟨_,rfl⟩
 rw[d]at a;go_enter func111,ntmps111;go_wp2_with fail;go_ret;exact⟨Am a.symm,rfl⟩
theorem Abl(st:Int)(rb:Nat)(w:V)(h:w.cell? ⟨rb,5,O⟩=U (I J st)):ZH ZI 111 #[ZA (U ⟨rb,0,O⟩),I J 3] w fun e w'=>e=ZD (ZK (Cb st 3))/\w=w':=by
 have a:=G (show Cb st 3=decide (2<=st)from rfl);go_enter func111,ntmps111;go_wp2_with fail;go_ret;exact⟨Am a.symm,rfl⟩
theorem Abk(st:Int)(rb:Nat)(w:V)(h:w.cell? ⟨rb,5,O⟩=U (I J st)):ZH ZI 111 #[ZA (U ⟨rb,0,O⟩),I J 4] w fun e w'=>e=ZD (ZK (Cb st 4))/\w=w':=by
 have a:=G (show Cb st 4=(decide (3<=st)&&decide (st<=4))from rfl);by_cases h3:3<=st
 ·rw[On h3]at a;go_enter func111,ntmps111;go_wp2_with fail;go_ret;exact⟨Am a.symm,rfl⟩
 ·rw[N1 h3]at a;go_enter func111,ntmps111;go_wp2_with fail;go_ret;exact⟨Am a.symm,rfl⟩
theorem Abj(st:Int)(rb:Nat)(w:V)(h:w.cell? ⟨rb,5,O⟩=U (I J st)):ZH ZI 111 #[ZA (U ⟨rb,0,O⟩),I J 5] w fun e w'=>e=ZD (ZK (Cb st 5))/\w=w':=by
 have a:=G (show Cb st 5=(st==3||st==4)from rfl);obtain⟨z,f⟩:∃z,(st==3)=z:=⟨_,rfl⟩
 obtain⟨y,d⟩:∃y,(st==4)=y:=⟨_,rfl⟩
 rw[f,d]at a;go_enter func111,ntmps111;cases z;case false=>
  go_wp2_with fail;go_ret;exact⟨Am a.symm,rfl⟩
 case true=>
  go_wp2_with fail;go_ret;exact⟨Am a.symm,rfl⟩
theorem Abi(st:Int)(rb:Nat)(w:V)(h:w.cell? ⟨rb,5,O⟩=U (I J st)):ZH ZI 111 #[ZA (U ⟨rb,0,O⟩),I J 6] w fun e w'=>e=ZD (ZK (Cb st 6))/\w=w':=by
 have a:=G (show Cb st 6=(decide (3<=st)&&decide (st<=6))from rfl);by_cases h3:3<=st
 ·rw[On h3]at a;go_enter func111,ntmps111;go_wp2_with fail;go_ret;exact⟨Am a.symm,rfl⟩
 ·rw[N1 h3]at a;go_enter func111,ntmps111;go_wp2_with fail;go_ret;exact⟨Am a.symm,rfl⟩
theorem Abh(st:Int)(rb:Nat)(w:V)(h:w.cell? ⟨rb,5,O⟩=U (I J st)):ZH ZI 111 #[ZA (U ⟨rb,0,O⟩),I J 7] w fun e w'=>e=ZD (ZK (Cb st 7))/\w=w':=by
 have a:=G (show Cb st 7=(decide (3<=st)&&decide (st<=7))from rfl);by_cases h3:3<=st
 ·rw[On h3]at a;go_enter func111,ntmps111;go_wp2_with fail;go_ret;exact⟨Am a.symm,rfl⟩
 ·rw[N1 h3]at a;go_enter func111,ntmps111;go_wp2_with fail;go_ret;exact⟨Am a.symm,rfl⟩
theorem Abg(st:Int)(rb:Nat)(w:V)(h:w.cell? ⟨rb,5,O⟩=U (I J st)):ZH ZI 111 #[ZA (U ⟨rb,0,O⟩),I J 8] w fun e w'=>e=ZD (ZK (Cb st 8))/\w=w':=by
 have a:=G (show Cb st 8=(decide (3<=st)&&decide (st<=8))from rfl);by_cases h3:3<=st
 ·rw[On h3]at a;go_enter func111,ntmps111;go_wp2_with fail;go_ret;exact⟨Am a.symm,rfl⟩
 ·rw[N1 h3]at a;go_enter func111,ntmps111;go_wp2_with fail;go_ret;exact⟨Am a.symm,rfl⟩
theorem Abf(st:Int)(rb:Nat)(w:V)(h:w.cell? ⟨rb,5,O⟩=U (I J st)):ZH ZI 111 #[ZA (U ⟨rb,0,O⟩),I J 9] w fun e w'=>e=ZD (ZK (Cb st 9))/\w=w':=by
 have a:=G (show Cb st 9=(decide (3<=st)&&decide (st<=9))from rfl);by_cases h3:3<=st
 ·rw[On h3]at a;go_enter func111,ntmps111;go_wp2_with fail;go_ret;exact⟨Am a.symm,rfl⟩
 ·rw[N1 h3]at a;go_enter func111,ntmps111;go_wp2_with fail;go_ret;exact⟨Am a.symm,rfl⟩
theorem Afw(st:Int)(k:Nat)(a:k<=9)(rb:Nat)(w:V)(h:w.cell? ⟨rb,5,O⟩=U (I J st)):ZH ZI 111 #[ZA (U ⟨rb,0,O⟩),I J k] w fun e w'=>e=ZD (ZK (Cb st k))/\w=w':=by
 match k,a with
 |0,_=>exact Abo st rb w h
 |1,_=>exact Abn st rb w h
 |2,_=>exact Abm st rb w h
 |3,_=>exact Abl st rb w h
 |4,_=>exact Abk st rb w h
 |5,_=>exact Abj st rb w h
 |6,_=>exact Abi st rb w h
 |7,_=>exact Abh st rb w h
 |8,_=>exact Abg st rb w h
 |9,_=>exact Abf st rb w h
theorem Tryz.formZero(w:V):(zeroValue 207).run ZI w=.ok (Sg (0,ByteArray.empty)) w:=by kernel_rfl
theorem Ag7(s:ByteArray)(w:V):
  ZH ZI 110 #[ZB s] w fun e w'=>e=ZD (ZM #[Sg (Ca s,Cm s),ZK (Ia s)])/\Below w.heap.size w w':=by
 have M:=fun(W:V)=>show(Instr.makeMap 273 O).run ZI W=.ok (.map (U W.heap.size)) (H9 W 0)from rfl;have h0:=fun(W:V)=>show(Instr.mapUpdate 273 (.map (U W.heap.size)) (ZB ⟨#[119,105,110,100,111,119]⟩) (ZJ #[I J 0,ZB ⟨#[110,110]⟩])).run ZI (H9 W 0)=.ok () (H9 W 1)from Jp underlying273 underlying9 W 0 (by decide) _ rfl;have h1:=fun(W:V)=>show(Instr.mapUpdate 273 (.map (U W.heap.size)) (ZB ⟨#[99,121,99,108,101]⟩) (ZJ #[I J 1,ZB ⟨#[110]⟩])).run ZI (H9 W 1)=.ok () (H9 W 2)from Jp underlying273 underlying9 W 1 (by decide) _ rfl;have h2:=fun(W:V)=>show(Instr.mapUpdate 273 (.map (U W.heap.size)) (ZB ⟨#[100,101,108,97,121]⟩) (ZJ #[I J 2,ZB ⟨#[110]⟩])).run ZI (H9 W 2)=.ok () (H9 W 3)from Jp underlying273 underlying9 W 2 (by decide) _ rfl;have h3:=fun(W:V)=>show(Instr.mapUpdate 273 (.map (U W.heap.size)) (ZB ⟨#[101,110,116,105,116,121]⟩) (ZJ #[I J 3,ZB ⟨#[115,110]⟩])).run ZI (H9 W 3)=.ok () (H9 W 4)from Jp underlying273 underlying9 W 3 (by decide) _ rfl;have B:=fun(W:V)=>show(Instr.mapUpdate 273 (.map (U W.heap.size)) (ZB ⟨#[112,111,105,110,116]⟩) (ZJ #[I J 4,ZB ⟨#[115]⟩])).run ZI (H9 W 4)=.ok () (H9 W 5)from Jp underlying273 underlying9 W 4 (by decide) _ rfl;have C:=fun(W:V)=>show(Instr.mapUpdate 273 (.map (U W.heap.size)) (ZB ⟨#[99,111,117,110,116]⟩) (ZJ #[I J 5,ZB ⟨#[112,110,110]⟩])).run ZI (H9 W 5)=.ok () (H9 W 6)from Jp underlying273 underlying9 W 5 (by decide) _ rfl;have D:=fun(W:V)=>show(Instr.mapUpdate 273 (.map (U W.heap.size)) (ZB ⟨#[103,97,112]⟩) (ZJ #[I J 6,ZB ⟨#[112,112,110,110]⟩])).run ZI (H9 W 6)=.ok () (H9 W 7)from Jp underlying273 underlying9 W 6 (by decide) _ rfl;have E:=fun(W:V)=>show(Instr.mapUpdate 273 (.map (U W.heap.size)) (ZB ⟨#[101,100,103,101]⟩) (ZJ #[I J 7,ZB ⟨#[112,112]⟩])).run ZI (H9 W 7)=.ok () (H9 W 8)from Jp underlying273 underlying9 W 7 (by decide) _ rfl;have H:=fun(W:V)=>show(Instr.mapUpdate 273 (.map (U W.heap.size)) (ZB ⟨#[102,105,114,115,116]⟩) (ZJ #[I J 8,ZB ⟨#[112]⟩])).run ZI (H9 W 8)=.ok () (H9 W 9)from Jp underlying273 underlying9 W 8 (by decide) _ rfl;have K:=fun(W:V)=>show(Instr.mapUpdate 273 (.map (U W.heap.size)) (ZB ⟨#[108,97,115,116]⟩) (ZJ #[I J 9,ZB ⟨#[112]⟩])).run ZI (H9 W 9)=.ok () (H9 W 10)from Jp underlying273 underlying9 W 9 (by decide) _ rfl;have u:=fun(W:V)=>Ag8 underlying273 underlying9 formZero W s;have f:Below w.heap.size w (w.alloc (ZC #[I J 0,ZB ⟨#[]⟩] 207)):=(R1 _ _).alloc (Y2 _) _;have j:=Ab w (ZC #[I J 0,ZB ⟨#[]⟩] 207);simp only[Sg]at u ⊢;go_enter func110,ntmps110;go_upto_region 1 with fail;generalize w.alloc _=w1 at f j ⊢;have l:Below w1.heap.size w1 (H9 w1 10):=(R1 _ _).alloc (Y2 _) _;have q:Below w1.heap.size w1 ((H9 w1 10).alloc (ZC #[I J (Ca s),ZB (Cm s)] 207)):=l.alloc l.size _;have d:=Ae q j (Aa j);have a:=Ab (H9 w1 10) (ZC #[I J (Ca s),ZB (Cm s)] 207);have g:=G (f.trans (q.mono f.size));have L:=Aa j;have i:=G l.size;clear j l q f;go_upto_region 3 with fail;generalize(H9 w1 10).alloc _=w2 at d a g ⊢;have i:=i.out;generalize(H9 w1 10).heap.size=eb at a i ⊢;have c0:w2.cell? ⟨w.heap.size,0,O⟩=U (I J 0):=by simp[World.cell?,d]
 have c1:w2.cell? ⟨w.heap.size,1,O⟩=U (ZB ⟨#[]⟩):=by simp[World.cell?,d]
 have N:∀o,w2.frozen? ⟨w.heap.size,o,O⟩=false:=by intro o;simp[World.frozen?,d]
 have Q:w2.cell? ⟨eb,0,O⟩=U (I J (Ca s)):=by simp[World.cell?,a]
 have R:w2.cell? ⟨eb,1,O⟩=U (ZB (Cm s)):=by simp[World.cell?,a]
 have hne:¬w.heap.size=eb:=by omega
 have y:¬eb=w.heap.size:=by omega
 have A:=(Af w2 w.heap.size 0 (I J (Ca s))).setCell (p:=⟨w.heap.size,1,O⟩) (fun _=>rfl) (ZB (Cm s));have n:=G (g.trans (A.below g.size (fun b S=>by omega)));clear M h0 h1 h2 h3 B C D E H K u d a A;go_wp2_with fail;refine bodyPost_ret (v:=ZM #[ZJ #[I J (Ca s),ZB (Cm s)],ZK (Ia s)]) (by simp[results,results110,go_sem,c0,c1,O2,O1]) rfl ?_;exact⟨rfl,n.out⟩
