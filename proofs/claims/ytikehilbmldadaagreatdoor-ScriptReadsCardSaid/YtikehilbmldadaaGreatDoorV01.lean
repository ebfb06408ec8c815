import Derived.Laws.AppendOwn
import Derived.Deep.RegionLaw
import Derived.Deep.QuietTactic
import Derived.Deep.DeepMust
import Derived.BigQuiet
import Derived.Test.YtikehilbmldadaaGreatDoorV08
set_option maxHeartbeats 1000000
set_option linter.unusedVariables false
open Go.Proofs.Tryz Go.Proofs.YtikehilbmldadaaGreatDoor.Tryz
namespace Go.Proofs.YtikehilbmldadaaGreatDoor
def Q7(c:Nat):Nat:=(c/2) ^^^ (if c%2=1 then 3988292384 else 0)
def Jm:Nat->Nat->Nat
 |0,c=>c
 |k+1,c=>Q7 (Jm k c)
def T7(c:Nat)(b:UInt8):Nat:=Jm 8 (c ^^^ b.toNat)
def Ft(l:List UInt8)(c:Nat):Nat:=l.foldl T7 c
def crc(l:List UInt8):Nat:=4294967295-Ft l 4294967295
theorem Aby{c:Nat}(h:c<4294967296):Q7 c<4294967296:=by
 unfold Q7
 refine Nat.xor_lt_two_pow (n:=32) (by omega) ?_
 split<;>decide
theorem V6{k c:Nat}(h:c<4294967296):Jm k c<4294967296:=by
 induction k with
 |zero=>exact h
 |succ k ih=>exact Aby ih
theorem wQ{c:Nat}{b:UInt8}(h:c<4294967296):T7 c b<4294967296:=by
 refine V6 (Nat.xor_lt_two_pow (n:=32) h ?_)
 have:=b.toNat_lt
 omega
theorem V7:∀{l:List UInt8} {c:Nat},c<4294967296->Ft l c<4294967296
 |[],_,h=>h
 |b::l,c,h=>V7 (l:=l) (wQ h)
theorem Aes(l:List UInt8):crc l<4294967296:=by unfold crc;omega
theorem gE(p:List UInt8)(x:UInt8)(c:Nat):Ft (p++ [x]) c=T7 (Ft p c) x:=by simp[Ft]
def beB:Nat->Nat->List UInt8
 |0,_=>[]
 |m+1,n=>beB m (n/256)++ [UInt8.ofNat n]
theorem Dv:∀m n,(beB m n).length=m
 |0,_=>rfl
 |m+1,n=>by simp[beB,Dv m]
def Gc(l:List UInt8):Nat:=l.foldl (fun n b=>256*n+b.toNat) 0
theorem Qv(l:List UInt8)(b:UInt8):Gc (l++ [b])=256*Gc l+b.toNat:=by simp[Gc]
theorem Mf:∀m n,Gc (beB m n)=n%256 ^ m
 |0,n=>by simp[beB,Gc,Nat.mod_one]
 |m+1,n=>by
  have e:n%256 ^ (m+1)=n%256+256*(n/256%256 ^ m):=by rw[Nat.pow_succ,Nat.mul_comm,Nat.mod_mul]
  rw[beB,Qv,Mf m,UInt8.toNat_ofNat',e]
  omega
theorem Hh(l:List UInt8):Gc l<256 ^ l.length:=by
 rcases List.eq_nil_or_concat l with rfl|⟨p,b,rfl⟩
 ·decide
 ·have ih:=Hh p
  rw[List.concat_eq_append,Qv,List.length_append,List.length_singleton,Nat.pow_succ]
  have:=b.toNat_lt
  omega
termination_by l.length
decreasing_by all_goals(subst_vars;simp)
structure Ar where
 seq:Nat
 ent:Nat
 kind:Nat
 tick:Nat
deriving DecidableEq,Inhabited
structure J8 (r:Ar):Prop where
 s1:1<=r.seq
 s2:r.seq<4294967296
 e:r.ent<256
 k:r.kind<256
 t:r.tick<281474976710656
def Cv(r:Ar):List UInt8:=beB 4 r.seq++beB 1 r.ent++beB 1 r.kind++beB 6 r.tick
def Bd(r:Ar):List UInt8:=Cv r++beB 4 (crc (Cv r))
theorem Ky(r:Ar):(Cv r).length=12:=by simp[Cv,Dv]
theorem Cx(r:Ar):(Bd r).length=16:=by simp[Bd,Ky,Dv]
def Rj(s:List UInt8):Ar:=⟨Gc (s.take 4),Gc ((s.drop 4).take 1),Gc ((s.drop 5).take 1),Gc ((s.drop 6).take 6)⟩
theorem Ada(s:List UInt8)(h:1<=(Rj s).seq):J8 (Rj s):=by
 have h1:=Hh (s.take 4)
 have h2:=Hh ((s.drop 4).take 1)
 have h3:=Hh ((s.drop 5).take 1)
 have h4:=Hh ((s.drop 6).take 6)
 have p1:256 ^ (s.take 4).length<=256 ^ 4:=Nat.pow_le_pow_right (by decide) (by simp;omega)
 have p2:256 ^ ((s.drop 4).take 1).length<=256 ^ 1:=Nat.pow_le_pow_right (by decide) (by simp;omega)
 have p3:256 ^ ((s.drop 5).take 1).length<=256 ^ 1:=Nat.pow_le_pow_right (by decide) (by simp;omega)
 have p4:256 ^ ((s.drop 6).take 6).length<=256 ^ 6:=Nat.pow_le_pow_right (by decide) (by simp;omega)
 exact⟨h,by show Gc (s.take 4)<_;omega,by show Gc ((s.drop 4).take 1)<_;omega,by show Gc ((s.drop 5).take 1)<_;omega,by show Gc ((s.drop 6).take 6)<_;omega⟩
theorem sZ(r:Ar)(h:J8 r)(t:List UInt8):Rj (Bd r++t)=r:=by
 have l4:=Dv 4 r.seq
 have l1:=Dv 1 r.ent
 have l2:=Dv 1 r.kind
 have l6:=Dv 6 r.tick
 obtain⟨A,hA⟩:∃A,A=beB 4 r.seq:=⟨_,rfl⟩
 obtain⟨B,hB⟩:∃B,B=beB 1 r.ent:=⟨_,rfl⟩
 obtain⟨C,hC⟩:∃C,C=beB 1 r.kind:=⟨_,rfl⟩
 obtain⟨D,hD⟩:∃D,D=beB 6 r.tick:=⟨_,rfl⟩
 have e:Bd r++t=A++(B++(C++(D++(beB 4 (crc (Cv r))++t)))):=by simp[Bd,Cv,hA,hB,hC,hD]
 rw[e]
 rw[<-hA]at l4
 rw[<-hB]at l1
 rw[<-hC]at l2
 rw[<-hD]at l6
 have d0:(A++(B++(C++(D++(beB 4 (crc (Cv r))++t))))).take 4=A:=by rw[<-l4];exact List.take_left
 have d4:(A++(B++(C++(D++(beB 4 (crc (Cv r))++t))))).drop 4=B++(C++(D++(beB 4 (crc (Cv r))++t))):=by rw[<-l4];exact List.drop_left
 have d5:(A++(B++(C++(D++(beB 4 (crc (Cv r))++t))))).drop 5=C++(D++(beB 4 (crc (Cv r))++t)):=by
  rw[show(5:Nat)=4+1 from rfl,<-List.drop_drop,d4,<-l1];exact List.drop_left
 have d6:(A++(B++(C++(D++(beB 4 (crc (Cv r))++t))))).drop 6=D++(beB 4 (crc (Cv r))++t):=by
  rw[show(6:Nat)=5+1 from rfl,<-List.drop_drop,d5,<-l2];exact List.drop_left
 have t4:(B++(C++(D++(beB 4 (crc (Cv r))++t)))).take 1=B:=by rw[<-l1];exact List.take_left
 have t5:(C++(D++(beB 4 (crc (Cv r))++t))).take 1=C:=by rw[<-l2];exact List.take_left
 have t6:(D++(beB 4 (crc (Cv r))++t)).take 6=D:=by rw[<-l6];exact List.take_left
 unfold Rj
 rw[d0,d4,d5,d6,t4,t5,t6,hA,hB,hC,hD,Mf,Mf,Mf,Mf]
 have a1:=h.s2
 have a2:=h.e
 have a3:=h.k
 have a4:=h.t
 rw[Nat.mod_eq_of_lt (show r.seq<256 ^ 4 by omega),Nat.mod_eq_of_lt (show r.ent<256 ^ 1 by omega),Nat.mod_eq_of_lt (show r.kind<256 ^ 1 by omega),Nat.mod_eq_of_lt (show r.tick<256 ^ 6 by omega)]
def Ga(k:Nat)(s:List UInt8):Option Ar:=
 if 1<=(Rj s).seq/\((Rj s).seq-1)%9=k/\Bd (Rj s)++ [165]=s then some (Rj s) else none
theorem Nh{k:Nat}{s:List UInt8}{r:Ar}(h:Ga k s=some r):J8 r/\(r.seq-1)%9=k/\Bd r++ [165]=s:=by
 unfold Ga at h
 split at h
 ·rename_i hc
  obtain rfl:=Option.some.inj h
  exact⟨Ada s hc.1,hc.2.1,hc.2.2⟩
 ·cases h
theorem Zw(r:Ar)(h:J8 r)(k:Nat)(hk:(r.seq-1)%9=k):Ga k (Bd r++ [165])=some r:=by
 unfold Ga
 rw[sZ r h [165]]
 rw[if_pos ⟨h.s1,hk,rfl⟩]
theorem Zv{k:Nat}{s:List UInt8}(h:s[16]? ≠some 165):Ga k s=none:=by
 cases hh:Ga k s with
 |none=>rfl
 |some r=>
  obtain⟨_,_,e⟩:=Nh hh
  exfalso
  apply h
  rw[<-e,List.getElem?_append_right (by rw[Cx];exact Nat.le_refl _),Cx]
  rfl
def Bx(b:List UInt8)(k:Nat):Option Ar:=Ga k ((b.drop (k*17)).take 17)
def HOk(H:Nat->Option Ar):Prop:=∀k r,H k=some r->J8 r/\(r.seq-1)%9=k
theorem Ko(b:List UInt8):HOk (Bx b):=fun k r h=>⟨(Nh h).1,(Nh h).2.1⟩
def Qe(H:Nat->Option Ar)(k:Nat):Nat:=match H k with|some r=>r.seq|none=>0
def I2(H:Nat->Option Ar):Nat->Nat
 |0=>0
 |n+1=>max (I2 H n) (Qe H n)
def Iq(H:Nat->Option Ar):Nat->Nat->List Ar
 |0,_=>[]
 |_,0=>[]
 |f+1,s+1=>match H (s%9)with
  |some r=>if r.seq=s+1 then Iq H f s++ [r] else []
  |none=>[]
def Ir(b:List UInt8):List Ar:=Iq (Bx b) 8 (I2 (Bx b) 9)
theorem Zn(H:Nat->Option Ar){k r:Nat}{x:Ar}(hx:H k=some x):∀n,k<n->x.seq<=I2 H n
 |0,h=>by omega
 |n+1,h=>by
  unfold I2
  by_cases e:k=n
  ·subst e
   have:Qe H k=x.seq:=by simp[Qe,hx]
   omega
  ·have:=Zn H (r:=r) hx n (by omega)
   omega
theorem T8(H:Nat->Option Ar):∀n,I2 H n=0\/∃k x,k<n/\H k=some x/\x.seq=I2 H n
 |0=>.inl rfl
 |n+1=>by
  unfold I2
  rcases T8 H n with h0|⟨k,x,h1,h2,h3⟩
  ·rw[h0,Nat.zero_max]
   cases hh:H n with
   |none=>left;simp[Qe,hh]
   |some y=>right;exact⟨n,y,by omega,hh,by simp[Qe,hh]⟩
  ·by_cases hle:Qe H n<=I2 H n
   ·right;exact⟨k,x,by omega,h2,by omega⟩
   ·right
    cases hh:H n with
    |none=>simp[Qe,hh]at hle
    |some y=>
     have:Qe H n=y.seq:=by simp[Qe,hh]
     exact⟨n,y,by omega,hh,by omega⟩
theorem Qt(H:Nat->Option Ar):∀(f s:Nat) (M:List Ar),M.length<=f->(∀j (hj:j<M.length),1<=M[j].seq/\H ((M[j].seq-1)%9)=some M[j]/\M[j].seq+(M.length-1-j)=s)->
  (M.length=f\/s=M.length\/(M.length<s/\∀r,H ((s-M.length-1)%9)=some r->r.seq≠s-M.length))->Iq H f s=M
 |0,s,M,hf,_,_=>by
  obtain rfl:=List.eq_nil_of_length_eq_zero (show M.length=0 by omega)
  simp[Iq]
 |f+1,0,M,hf,hM,_=>by
  cases M with
  |nil=>simp[Iq]
  |cons a M=>
   have:=hM 0 (by simp)
   omega
 |f+1,s+1,M,hf,hM,hstop=>by
  rcases List.eq_nil_or_concat M with rfl|⟨M',r,rfl⟩
  ·unfold Iq
   simp at hstop
   cases hh:H (s%9)with
   |none=>rfl
   |some y=>simp only;rw[if_neg (hstop y hh)]
  ·rw[List.concat_eq_append]at hM hf hstop ⊢
   simp only[List.length_append,List.length_singleton]at hM hf hstop
   have hl:=hM M'.length (by omega)
   rw[List.getElem_append_right (by omega)]at hl
   simp only[Nat.sub_self,List.getElem_singleton]at hl
   have hs:r.seq=s+1:=by omega
   unfold Iq
   rw[show s=r.seq-1 by omega,hl.2.1]
   simp only
   rw[if_pos (by omega)]
   congr 1
   refine Qt H f (r.seq-1) M' (by omega) (fun j hj=>?_) ?_
   ·have:=hM j (by omega)
    rw[List.getElem_append_left hj]at this
    exact⟨this.1,this.2.1,by omega⟩
   ·rcases hstop with h|h|⟨h,h'⟩
    ·left;omega
    ·right;left;omega
    ·right;right
     refine⟨by omega,fun r2 hr2=>?_⟩
     have:=h' r2 (by rw[show s+1-(M'.length+1)-1=r.seq-1-M'.length-1 by omega];exact hr2)
     omega
theorem kV(H:Nat->Option Ar)(hH:HOk H)(hH9:∀k,9<=k->H k=none)(L:List Ar)(hmem:∀r,r∈L↔∃k,H k=some r)(hs:L.Pairwise (fun a b=>a.seq<b.seq))(i:Nat)(hi:i<=L.length)(h8:L.length-i<=8)
  (hrun:∀j (h1:i<=j) (h2:j<L.length),L[j].seq+(L.length-1-j)=(L.getLast?.map (·.seq)).getD 0) (hne:L≠ []->i<L.length)
  (hstop:i=0\/L.length-i=8\/∃(h0:0<i) (h1:i-1<L.length) (h2:i<L.length),L[i-1].seq+1≠L[i].seq):Iq H 8 (I2 H 9)=L.drop i:=by
 have hbest:I2 H 9=(L.getLast?.map (·.seq)).getD 0:=by
  cases hL:L.getLast? with
  |none=>
   have:L= []:=by simpa using hL
   subst this
   rcases T8 H 9 with h|⟨k,x,h1,h2,h3⟩
   ·simpa using h
   ·have:=(hmem x).2 ⟨k,h2⟩
    cases this
  |some z=>
   have hzL:z∈L:=List.mem_of_getLast? hL
   obtain⟨k,hk⟩:=(hmem z).1 hzL
   have hk9:k<9:=Nat.lt_of_not_le (fun h=>by rw[hH9 k h]at hk;cases hk)
   have h1:=Zn H (r:=0) hk 9 hk9
   rcases T8 H 9 with h|⟨k2,x,q1,q2,q3⟩
   ·have:=(hH k z hk).1.s1;omega
   ·have hxL:=(hmem x).2 ⟨k2,q2⟩
    have hle:x.seq<=z.seq:=by
     obtain⟨j,hj,rfl⟩:=List.mem_iff_getElem.1 hxL
     have hz:z=L[L.length-1]'(by omega):=by
      rw[List.getLast?_eq_getElem?,List.getElem?_eq_getElem (by omega)]at hL
      exact(Option.some.inj hL).symm
     rw[hz]
     by_cases e:j=L.length-1
     ·subst e;exact Nat.le_refl _
     ·exact Nat.le_of_lt (List.pairwise_iff_getElem.1 hs j (L.length-1) hj (by omega) (by omega))
    simp
    omega
 rw[hbest]
 have hat:∀j (hj:j<L.length),1<=L[j].seq/\H ((L[j].seq-1)%9)=some L[j]:=fun j hj=>by
  obtain⟨k,hk⟩:=(hmem L[j]).1 (List.getElem_mem hj)
  have:=hH k _ hk
  exact⟨this.1.s1,by rw[this.2];exact hk⟩
 refine Qt H 8 _ (L.drop i) (by simp;omega) (fun j hj=>?_) ?_
 ·simp only[List.length_drop]at hj
  rw[List.getElem_drop]
  have h1:=hat (i+j) (by omega)
  have h2:=hrun (i+j) (by omega) (by omega)
  refine⟨h1.1,h1.2,?_⟩
  rw[List.length_drop]
  omega
 ·rw[List.length_drop]
  by_cases hLe:L= []
  ·subst hLe
   right;left;simp
  have hiL:=hne hLe
  have h0:=hrun i (Nat.le_refl _) hiL
  have hp:=(hat i hiL).1
  rcases hstop with h|h|⟨h00,h1,h2,h3⟩
  ·subst h
   by_cases he:(L.getLast?.map (·.seq)).getD 0=L.length
   ·right;left;omega
   ·right;right
    refine⟨by omega,fun r hr hrs=>?_⟩
    have hrL:=(hmem r).2 ⟨_,hr⟩
    obtain⟨j,hj,rfl⟩:=List.mem_iff_getElem.1 hrL
    have:=hrun j (Nat.zero_le _) hj
    omega
  ·left;omega
  ·right
   by_cases he:(L.getLast?.map (·.seq)).getD 0=L.length-i
   ·left;omega
   ·right
    refine⟨by omega,fun r hr hrs=>?_⟩
    have hrL:=(hmem r).2 ⟨_,hr⟩
    obtain⟨j,hj,rfl⟩:=List.mem_iff_getElem.1 hrL
    by_cases hij:i<=j
    ·have:=hrun j hij hj;omega
    ·have p1:=fun(a b:Nat) (ha:a<L.length) (hb:b<L.length) (hab:a<b)=>List.pairwise_iff_getElem.1 hs a b ha hb hab
     have hlt:=p1 (i-1) i h1 h2 (by omega)
     by_cases e:j=i-1
     ·subst e;omega
     ·have:=p1 j (i-1) hj h1 (by omega);omega
open Go.RowKit
theorem Ht{P:Program}{w:World}{ops:Array Oper}{o:Oper}{a:Act}{K:Act->World->Prop}{Q:Exit->Act->World->Prop}{E:Prop}(hgd:o.guard=none)(s x:Operand)(t:TypeId)
  (ho:o.op=.call { callee:=.builtin .append,args:=#[s,x],argTypes:=#[t,t]})
  (base:Nat) (e:TypeId) (i:TypeInfo) (z:Value) (size bytes:Nat) (ht:P.underlying t=some (.slice e)) (hi:P.info? e=some i) (hz:i.zero=some z)
  (hsize:i.size=size) (hby:i.bytes=bytes) (hzs:z.cells.size=size) (hsz:0<size)
  (v:Value) (n:Nat) (xs:List Value) (hs:a.eval s=v) (hown:w.ownsRow base e size v n xs)
  (ad:Addr) (m c:Nat) (news:List Value) (hx:a.eval x=.slice (some ad) m c) (hl:news.length=m*size) (hnews:∀j u,news[j]? =some u->w.cell? (ad.add j)=some u) (h1:∀u∈news,u.oneCell'=true)
  (h63:n+m<=maxLen) (hbytes:(n+m)*bytes<=140737488355328) (hbase:base<=w.heap.size)
  (h:∀ao cap w',w'.ownsRow base e size (.slice ao (n+m) cap) (n+m) (xs++news)->w.grownBy w' v.ownBlock->K (a.put o.dst (.slice ao (n+m) cap)) w'):
  if Region.wanted o (yielded ops a.tmps)=true then Oper.wp P o a w K Q else E:=by
 have hw:Region.wanted o (yielded ops a.tmps)=true:=by simp[Region.wanted,hgd]
 rw[if_pos hw]
 refine wp_append_own w s x t ho base e i z size bytes ht hi hz hsize hby hzs hsz v n xs hs hown ad m c news hx hl hnews h1 h63 hbytes hbase ?_
 intro v' w' ho' hg _
 rcases ho'.2 with⟨hv,hn⟩|⟨g,cap,cur,hv,_⟩
 ·rw[hv]at ho' ⊢
  have:=h none 0 w' (by rw[hn]at ho' ⊢;exact ho') hg
  rw[hn]at this;exact this
 ·rw[hv]at ho' ⊢
  exact h _ _ w' ho' hg
theorem Lq{S:Nat->Prop}{w w':World}{base:Nat}{e:TypeId}{size:Nat}{v:Value}{n:Nat}{xs:List Value}(h:w.ownsRow base e size v n xs)(hk:Ae S w w')(hS:∀b,v.ownBlock=some b->¬S b):w'.ownsRow base e size v n xs:=by
 refine⟨h.1,?_⟩
 rcases h.2 with hn|⟨g,cap,cur,rfl,hb,hgg,rest⟩
 ·exact .inl hn
 ·exact .inr ⟨g,cap,cur,rfl,hb,hk.get hgg (hS g rfl),rest⟩
theorem rD{w:World}{a:Addr}{v:Value}(h:w.cell? a=some v)(o:Obj):(w.alloc o).cell? a=some v:=by
 have hb:=World.block_lt_of_cell? w a h
 rw[World.cell?_of_block (w:=w) (Below.heap_alloc _ _ _ hb)];exact h
theorem Au{w:World}{b:Nat}{c0 c1:Value}{t:TypeId}(h:w.heap[b]? =some (.cells #[c0,c1] t)):
  w.cell? ⟨b,0,none⟩=some c0/\w.cell? ⟨b,1,none⟩=some c1/\∀o,w.frozen? ⟨b,o,none⟩=false:=by
 simp[World.cell?,World.frozen?,h]
theorem Abf{W w1:World}{g:Nat}{c0 c1:Value}{t:TypeId}{o:Option Nat}(hg:W.grownBy w1 o)(hh:W.heap[g]? =some (.cells #[c0,c1] t))(hne:o≠some g):
  w1.heap[g]? =some (.cells #[c0,c1] t):=by
 rw[hg.block g (Aa hh) (fun e=>hne e.symm)];exact hh
theorem Qp(w:World)(l:List Value)(t:TypeId)(sz n:Nat)(hl:l.length=n*sz)(hn:n<=maxLen):Ay (· =w.heap.size) (w.alloc (.cells l.toArray t)) (.slice (some ⟨w.heap.size,0,none⟩) n n) sz l n:=by
 refine⟨hl,_,_,rfl,Nat.le_refl _,hn,(fun h=>by cases h),fun _=>⟨w.heap.size,0,rfl,rfl,by simp,fun k u hu=>?_⟩⟩
 have:=Av w l t k u hu
 rwa [Cz]at this
theorem E7{w:World}{base:Nat}{e:TypeId}{size:Nat}{v:Value}{n:Nat}{xs:List Value}(h:w.ownsRow base e size v n xs):Ay (fun b=>base<=b) w v size xs n:=by
 obtain⟨hl,hv⟩:=h
 rcases hv with⟨rfl,rfl⟩|⟨g,cap,cur,rfl,hb,hg,h1,h2,_,htake⟩
 ·obtain rfl:xs= []:=List.eq_nil_of_length_eq_zero (by simpa using hl)
  exact Ay.nil _ _ _
 ·refine⟨hl,_,_,rfl,h1,h2,(fun h=>by cases h),fun _=>⟨g,0,rfl,hb,Aa hg,fun k u hu=>?_⟩⟩
  rw[Nat.zero_add,cell_of_row w g k cur e (0,0) hg]
  rw[<-htake,List.getElem?_take]at hu
  split at hu
  ·simpa using hu
  ·cases hu
theorem Bn{w:World}{b:Nat}{c0 c1 c2 c3:Value}{t:TypeId}(h:w.heap[b]? =some (.cells #[c0,c1,c2,c3] t)):
  w.cell? ⟨b,0,none⟩=some c0/\w.cell? ⟨b,1,none⟩=some c1/\w.cell? ⟨b,2,none⟩=some c2/\w.cell? ⟨b,3,none⟩=some c3:=by
 simp[World.cell?,h]
theorem A9{P:Program}{w:World}{ops:Array Oper}{rest:List Oper}{o:Oper}{a:Act}{Q:Exit->Act->World->Prop}(hgd:o.guard=none)(s x:Operand)(t:TypeId)
  (ho:o.op=.call { callee:=.builtin .append,args:=#[s,x],argTypes:=#[t,t]})
  (base:Nat) (e:TypeId) (i:TypeInfo) (z:Value) (size bytes:Nat) (ht:P.underlying t=some (.slice e)) (hi:P.info? e=some i) (hz:i.zero=some z)
  (hsize:i.size=size) (hby:i.bytes=bytes) (hzs:z.cells.size=size) (hsz:0<size)
  (v:Value) (n:Nat) (xs:List Value) (hs:a.eval s=v) (hown:w.ownsRow base e size v n xs)
  (ad:Addr) (m c:Nat) (news:List Value) (hx:a.eval x=.slice (some ad) m c) (hl:news.length=m*size) (hnews:∀j u,news[j]? =some u->w.cell? (ad.add j)=some u) (h1:∀u∈news,u.oneCell'=true)
  (h63:n+m<=maxLen) (hbytes:(n+m)*bytes<=140737488355328) (hbase:base<=w.heap.size)
  (h:∀ao cap w',w'.ownsRow base e size (.slice ao (n+m) cap) (n+m) (xs++news)->w.grownBy w' v.ownBlock->wpList P ops Q rest (a.put o.dst (.slice ao (n+m) cap)) w'):
  wpList P ops Q (o::rest) a w:=by
 refine wpList_append_own w hgd s x t ho base e i z size bytes ht hi hz hsize hby hzs hsz v n xs hs hown ad m c news hx hl hnews h1 h63 hbytes hbase ?_
 intro v' w' ho' hg _
 rcases ho'.2 with⟨hv,hn⟩|⟨g,cap,cur,hv,_⟩
 ·rw[hv]at ho' ⊢
  have:=h none 0 w' (by rw[hn]at ho' ⊢;exact ho') hg
  rw[hn]at this;exact this
 ·rw[hv]at ho' ⊢
  exact h _ _ w' ho' hg
theorem Ay.here{R:Nat->Prop}{w:World}{v:Value}{sz:Nat}{cs:List Value}{n:Nat}(h:Ay R w v sz cs n):Ay (· <w.heap.size) w v sz cs n:=by
 obtain⟨hl,ao,cap,hv,h1,h2,h3,h4⟩:=h
 refine⟨hl,ao,cap,hv,h1,h2,h3,fun hp=>?_⟩
 obtain⟨b,off,ha,hR,hb,hc⟩:=h4 hp
 exact⟨b,off,ha,hb,hb,hc⟩
structure Lb where
 fr:Int
 dst:Int
 mn:Int
 mx:Int
structure Ap where
 name:ByteArray
 tol:Int
 points:List ByteArray
 count:Int
 mn:Int
 mx:Int
 gaps:List Lb
 edges:List (Int × Int)
 first:List Int
 last:List Int
def Ck(g:Lb):List Value:=[.int .i64 g.fr,.int .i64 g.dst,.int .i64 g.mn,.int .i64 g.mx]
def Cd(x:Int × Int):List Value:=[.int .i64 x.1,.int .i64 x.2]
def Ad(l:List ByteArray):List Value:=l.map Value.string
def Ac(l:List Int):List Value:=l.map (Value.int .i64)
structure Ih (R:Nat->Prop) (w:World) (E:Ap) (vp vg ve vf vl:Value):Prop where
 p:Ay R w vp 1 (Ad E.points) E.points.length
 g:Ay R w vg 4 (E.gaps.flatMap Ck) E.gaps.length
 e:Ay R w ve 2 (E.edges.flatMap Cd) E.edges.length
 f:Ay R w vf 1 (Ac E.first) E.first.length
 l:Ay R w vl 1 (Ac E.last) E.last.length
def A7(E:Ap)(vp vg ve vf vl:Value):Array Value:=#[.string E.name,.int .i64 E.tol,vp,.int .i64 E.count,.int .i64 E.mn,.int .i64 E.mx,vg,ve,vf,vl]
theorem Ih.keep{R S:Nat->Prop}{w w':World}{E:Ap}{vp vg ve vf vl:Value}(h:Ih R w E vp vg ve vf vl)(hk:Ae S w w')(hd:∀b,R b->¬S b):Ih R w' E vp vg ve vf vl:=
 ⟨h.p.keep hk hd,h.g.keep hk hd,h.e.keep hk hd,h.f.keep hk hd,h.l.keep hk hd⟩
theorem Bs{w:World}{b:Nat}{c0 c1 c2 c3 c4 c5 c6 c7 c8 c9:Value}{t:TypeId}(h:w.heap[b]? =some (.cells #[c0,c1,c2,c3,c4,c5,c6,c7,c8,c9] t)):
  w.cell? ⟨b,0,none⟩=some c0/\w.cell? ⟨b,1,none⟩=some c1/\w.cell? ⟨b,2,none⟩=some c2/\w.cell? ⟨b,3,none⟩=some c3/\w.cell? ⟨b,4,none⟩=some c4/\w.cell? ⟨b,5,none⟩=some c5/\
  w.cell? ⟨b,6,none⟩=some c6/\w.cell? ⟨b,7,none⟩=some c7/\w.cell? ⟨b,8,none⟩=some c8/\w.cell? ⟨b,9,none⟩=some c9/\∀o,w.frozen? ⟨b,o,none⟩=false:=by
 simp[World.cell?,World.frozen?,h]
theorem Tryz.infoStr:(Tryz.prog.info? 9).map (fun i=>(i.zero,i.size,i.bytes))=some (some (.string ByteArray.empty),1,16):=by kernel_rfl
theorem Tryz.infoGap:(Tryz.prog.info? 126).map (fun i=>(i.zero,i.size,i.bytes))=some (some (.agg #[.int .i64 0,.int .i64 0,.int .i64 0,.int .i64 0]),4,32):=by kernel_rfl
theorem Tryz.infoEdge:(Tryz.prog.info? 127).map (fun i=>(i.zero,i.size,i.bytes))=some (some (.agg #[.int .i64 0,.int .i64 0]),2,16):=by kernel_rfl
theorem Tryz.infoInt:(Tryz.prog.info? 3).map (fun i=>(i.zero,i.size,i.bytes))=some (some (.int .i64 0),1,8):=by kernel_rfl
theorem Ay.val{R:Nat->Prop}{w:World}{v:Value}{sz:Nat}{cs:List Value}{n:Nat}(h:Ay R w v sz cs n):∃ao cap,v=.slice ao n cap:=by
 obtain⟨_,ao,cap,hv,_⟩:=h
 exact⟨ao,cap,hv⟩
theorem Zh{α:Type}(f:α->List Value)(hf:∀x,∀u∈f x,u.oneCell'=true)(l:List α):∀u∈l.flatMap f,u.oneCell'=true:=by
 intro u hu
 obtain⟨x,_,hx⟩:=List.mem_flatMap.1 hu
 exact hf x u hx
theorem Kb(l:List ByteArray):∀u∈Ad l,u.oneCell'=true:=by intro u hu;simp[Ad]at hu;obtain⟨x,_,rfl⟩:=hu;rfl
theorem Ff(l:List Int):∀u∈Ac l,u.oneCell'=true:=by intro u hu;simp[Ac]at hu;obtain⟨x,_,rfl⟩:=hu;rfl
structure Yr (E:Ap):Prop where
 p:E.points.length<=100
 g:E.gaps.length<=100
 e:E.edges.length<=100
 f:E.first.length<=100
 l:E.last.length<=100
def Ahh(E:Ap):Prop:=60<E.name.size\/30<E.points.length\/30<E.gaps.length\/80<E.edges.length\/30<E.first.length\/30<E.last.length
instance (E:Ap):Decidable (Ahh E):=by unfold Ahh;infer_instance
def Afg(E:Ap):Prop:=Ahh E\/∃s∈E.points,60<s.size
instance (E:Ap):Decidable (Afg E):=by unfold Afg;infer_instance
structure Ah9 where
 point:Int
 later:Int
 fin:Bool
theorem Ay.cases{R:Nat->Prop}{w:World}{ao:Option Addr}{n cap sz:Nat}{cs:List Value}(h:Ay R w (.slice ao n cap) sz cs n):(ao=none/\n=0/\cap=0/\cs= [])\/∃a,ao=some a:=by
 obtain⟨hl,ao',cap',hv,h1,h2,h3,h4⟩:=h
 simp at hv
 obtain⟨rfl,rfl⟩:=hv
 cases ao with
 |none=>
  have:=h3 rfl
  have hn:n=0:=by omega
  subst hn
  exact .inl ⟨rfl,rfl,this,List.eq_nil_of_length_eq_zero (by simpa using hl)⟩
 |some a=>exact .inr ⟨a,rfl⟩
theorem Xh{R:Nat->Prop}{w:World}{a:Addr}{n cap sz:Nat}{cs:List Value}(h:Ay R w (.slice (some a) n cap) sz cs n):cs.length=n*sz/\n<=maxLen/\∀j u,cs[j]? =some u->w.cell? (a.add j)=some u:=by
 obtain⟨hl,ao',cap',hv,h1,h2,h3,h4⟩:=h
 simp at hv
 obtain⟨rfl,rfl⟩:=hv
 refine⟨hl,by omega,fun j u hu=>?_⟩
 have hj:j<cs.length:=(List.getElem?_eq_some_iff.1 hu).1
 obtain⟨b,off,ha,_,_,hc⟩:=h4 (by omega)
 obtain rfl:=Option.some.inj ha
 rw[Cz]
 exact hc j u hu
theorem Qm(R:Nat->Prop)(l:List Int)(v:Value)(w:World)(h:Ay R w v 1 (Ac l) l.length)(hn:l.length<=1000):
  Calls Tryz.prog 159 #[v] w fun e w'=>∃ao cap,e=.returned (.slice ao l.length cap)/\Ay (fun b=>w.heap.size<=b) w' (.slice ao l.length cap) 1 (Ac l) l.length/\Below w.heap.size w w':=by
 obtain⟨i0,hi0,hz0,hz1,hz2⟩:=info_parts infoInt
 have qn:∀(w:World) (a:Option Addr) (n c n' c':Nat),(binOp .eql 48 (.slice a n c) (.slice none n' c')).run Tryz.prog w=.ok (.bool a.isNone) w:=fun w a n c n' c'=>Lib.run_eql_slice_nil w _ _ a n c n' c' underlying48
 obtain⟨ao,cap,rfl⟩:=h.val
 rcases h.cases with⟨rfl,hl,rfl,hc⟩|⟨a,rfl⟩
 ·have hl':l= []:=List.eq_nil_of_length_eq_zero hl
  subst hl'
  clear h hl hc
  go_enter func159,ntmps159
  go_wp2_with fail
  go_ret
  exact⟨none,0,rfl,Ay.nil _ _ _,Below.refl _ _⟩
 ·obtain⟨h1,h2,h3⟩:=Xh h
  have h3':Hid (∀j u,(Ac l)[j]? =some u->∀o,(w.alloc o).cell? (a.add j)=some u):=fun j u hu o=>by
   have:=h3 j u hu
   rw[World.cell?_of_block (w:=w) (Below.heap_alloc _ _ _ (World.block_lt_of_cell? _ _ this))];exact this
  have hh63:Hid (0+l.length<=maxLen):=by show 0+l.length<=maxLen;omega
  have hby:Hid ((0+l.length)*8<=140737488355328):=by show(0+l.length)*8<=_;omega
  have hbs:Hid (∀o,w.heap.size<=(w.alloc o).heap.size):=fun o=>by simp
  clear h h2 h3
  go_enter func159,ntmps159
  go_wp2_with (at_builtin;refine A9 rfl (.tmp 5) (.tmp 6) 48 rfl w.heap.size 3 i0 _ 1 8 underlying48 hi0 hz0 hz1 hz2 rfl (by decide) _ 0 [] rfl (World.ownsRow_made w #[] 0 (Nat.le_refl _) (by decide) rfl) a l.length cap (Ac l) rfl h1 (fun j u hu=>h3'.out j u hu _) (Ff l) hh63.out hby.out (hbs.out _) ?_;intro a1 k1 w6 ho6 hg6)
  go_ret
  rw[Nat.zero_add,List.nil_append]at ho6
  refine⟨a1,k1,rfl,E7 ho6,?_⟩
  exact((Below.refl _ _).alloc (Nat.le_refl _) _).grown hg6 (by simp) (fun k hk=>by have h:some w.heap.size=some k:=hk;simp at h;omega)
def Vo(l:List Int)(x:Int):Int:=match l.findIdx? (fun y=>y==x)with|some i=>(i:Int)|none=>-1
theorem Aa8{l:List Int}{x:Int}{k:Nat}(hk:k<l.length)(hx:l[k]=x)(hb:∀j (hj:j<l.length),j<k->l[j]≠x):Vo l x=k:=by
 have:l.findIdx? (fun y=>y==x)=some k:=by
  rw[List.findIdx?_eq_some_iff_getElem]
  exact⟨hk,by simp[hx],fun j hj=>by have:=hb j (by omega) hj;simpa using this⟩
 simp[Vo,this]
theorem vL{l:List Int}{x:Int}(h:∀j (hj:j<l.length),l[j]≠x):Vo l x= -1:=by
 have:l.findIdx? (fun y=>y==x)=none:=by
  rw[List.findIdx?_eq_none_iff]
  intro y hy
  obtain⟨j,hj,rfl⟩:=List.mem_iff_getElem.1 hy
  simpa using h j hj
 simp[Vo,this]
theorem Zu{l:List Int}{x:Int}:0<=Vo l x↔x∈l:=by
 unfold Vo
 cases h:l.findIdx? (fun y=>y==x)with
 |none=>
  rw[List.findIdx?_eq_none_iff]at h
  simp
  intro hx
  have:=h x hx
  simp at this
 |some i=>
  rw[List.findIdx?_eq_some_iff_getElem]at h
  obtain⟨hi,he,_⟩:=h
  simp at he
  subst he
  simp
theorem Abo(l:List Int):l.flatMap (fun x=>[Value.int .i64 x])=Ac l:=by
 unfold Ac
 induction l with
 |nil=>rfl
 |cons x l ih=>simp[ih]
theorem Kn{R:Nat->Prop}{w:World}{ao:Option Addr}{n cap:Nat}{l:List Int}(h:Ay R w (.slice ao n cap) 1 (Ac l) l.length)(h0:0<l.length):
  ∃b off,ao=some ⟨b,off,none⟩/\R b/\b<w.heap.size/\∀k (hk:k<l.length),w.cell? ⟨b,off+k,none⟩=some (.int .i64 l[k]):=by
 have h':Ay R w (.slice ao n cap) 1 (l.flatMap (fun x=>[Value.int .i64 x])) l.length:=by
  rw[Abo];exact h
 obtain⟨b,off,ha,hR,hb,hc⟩:=h'.elem (fun _=>rfl) (by decide) h0
 refine⟨b,off,ha,hR,hb,fun k hk=>?_⟩
 have:=hc k hk 0 _ rfl
 simpa using this
theorem Wz(R:Nat->Prop)(l:List Int)(v:Value)(x:Int)(w:World)(h:Ay R w v 1 (Ac l) l.length):
  Calls Tryz.prog 240 #[v,.int .i64 x] w fun e w'=>e=.returned (.int .i64 (Vo l x))/\w=w':=by
 obtain⟨hl,ao,cap,rfl,h1,h2,h3,h4⟩:=h
 have hsl:Ay R w (.slice ao l.length cap) 1 (Ac l) l.length:=⟨hl,_,_,rfl,h1,h2,h3,h4⟩
 have hn:l.length<=9223372036854775807:=by unfold maxLen at h2;omega
 have H:=Aia hsl
 clear hl h1 h2 h3 h4 hsl
 go_enter func240,ntmps240
 go_wp2_with fail
 go_loop [8] (fun s=>∃k:Nat,k<=l.length/\s=.int .i64 k/\Hid (∀j (hj:j<l.length),j<k->l[j]≠x)) (fun s=>l.length-(intOf s).toNat)
 case atStart=>exact⟨0,Nat.zero_le _,rfl,fun j hj h=>by omega⟩
 case round=>
  obtain⟨k,hk,rfl,hall⟩:=hrel
  by_cases hlt:k<l.length
  ·obtain⟨b,off,rfl,hRb,_,hc⟩:=Kn H.out (by omega)
   have q:=hc k hlt
   clear hc
   by_cases hx:x=l[k]
   ·have hxb:(x==l[k])=true:=beq_iff_eq.2 hx
    have hI:=Aa8 hlt hx.symm hall.out
    have HI:=Aia hI
    clear hx hI
    go_wp2_with fail
    go_ret
    exact⟨A6 HI.out.symm,rfl⟩
   ·have hxb:(x==l[k])=false:=by simp[hx]
    go_wp2_with fail
    go_round
    case rel=>
     refine⟨k+1,by omega,by go_num,fun j hj h=>?_⟩
     by_cases hjk:j=k
     ·subst hjk;exact fun h=>hx h.symm
     ·exact hall.out j hj (by omega)
    case measure=>simp[intOf];omega
  ·have hI:=vL (l:=l) (x:=x) (fun j hj=>hall.out j hj (by omega))
   have HI:=Aia hI
   clear hI
   go_wp2_with fail
   go_ret
   exact⟨A6 HI.out.symm,rfl⟩
theorem Jg(R:Nat->Prop)(l:List Int)(v:Value)(x:Int)(w:World)(h:Ay R w v 1 (Ac l) l.length):
  Calls Tryz.prog 200 #[v,.int .i64 x] w fun e w'=>e=.returned (.bool (decide (x∈l)))/\w=w':=by
 obtain⟨ao,cap,rfl⟩:=h.val
 have H:=Aia h
 clear h
 go_enter func200,ntmps200
 go_wp2_with fail
 refine(Wz R l _ x _ H.out).mono ?_
 rintro e w' ⟨rfl,rfl⟩
 go_wp2_with fail
 go_ret
 exact⟨Ah (decide_eq_decide.2 Zu),rfl⟩
def Cj(l:List ByteArray)(x:ByteArray):Bool:=l.any (fun y=>y.toList==x.toList)
def C9(l:List ByteArray)(x:ByteArray):Int:=match l.findIdx? (fun y=>y.toList==x.toList)with|some i=>(i:Int)|none=>-1
theorem Qq{l:List ByteArray}{x:ByteArray}{k:Nat}(hk:k<l.length)(hx:l[k].toList=x.toList)(hb:∀j (hj:j<l.length),j<k->l[j].toList≠x.toList):C9 l x=k:=by
 have:l.findIdx? (fun y=>y.toList==x.toList)=some k:=by
  rw[List.findIdx?_eq_some_iff_getElem]
  exact⟨hk,by simp[hx],fun j hj=>by have:=hb j (by omega) hj;simpa using this⟩
 simp[C9,this]
theorem S8{l:List ByteArray}{x:ByteArray}(h:∀j (hj:j<l.length),l[j].toList≠x.toList):C9 l x= -1:=by
 have:l.findIdx? (fun y=>y.toList==x.toList)=none:=by
  rw[List.findIdx?_eq_none_iff]
  intro y hy
  obtain⟨j,hj,rfl⟩:=List.mem_iff_getElem.1 hy
  simpa using h j hj
 simp[C9,this]
theorem Wi(l:List ByteArray)(x:ByteArray):decide (0<=C9 l x)=Cj l x:=by
 unfold C9 Cj
 cases h:l.findIdx? (fun y=>y.toList==x.toList)with
 |none=>
  rw[List.findIdx?_eq_none_iff]at h
  have:l.any (fun y=>y.toList==x.toList)=false:=by
   rw[List.any_eq_false];intro y hy;simpa using h y hy
  rw[this];decide
 |some i=>
  rw[List.findIdx?_eq_some_iff_getElem]at h
  obtain⟨hi,he,_⟩:=h
  have:l.any (fun y=>y.toList==x.toList)=true:=List.any_eq_true.2 ⟨l[i],List.getElem_mem hi,he⟩
  rw[this]
  simp
theorem Ss(l:List ByteArray):l.flatMap (fun x=>[Value.string x])=Ad l:=by
 unfold Ad
 induction l with
 |nil=>rfl
 |cons x l ih=>simp[ih]
theorem Eh{R:Nat->Prop}{w:World}{ao:Option Addr}{n cap:Nat}{l:List ByteArray}(h:Ay R w (.slice ao n cap) 1 (Ad l) l.length)(h0:0<l.length):
  ∃b off,ao=some ⟨b,off,none⟩/\R b/\b<w.heap.size/\∀k (hk:k<l.length),w.cell? ⟨b,off+k,none⟩=some (.string l[k]):=by
 have h':Ay R w (.slice ao n cap) 1 (l.flatMap (fun x=>[Value.string x])) l.length:=by
  rw[Ss];exact h
 obtain⟨b,off,ha,hR,hb,hc⟩:=h'.elem (fun _=>rfl) (by decide) h0
 refine⟨b,off,ha,hR,hb,fun k hk=>?_⟩
 have:=hc k hk 0 _ rfl
 simpa using this
theorem Qi(R:Nat->Prop)(l:List ByteArray)(v:Value)(x:ByteArray)(w:World)(h:Ay R w v 1 (Ad l) l.length):
  Calls Tryz.prog 113 #[v,.string x] w fun e w'=>e=.returned (.int .i64 (C9 l x))/\w=w':=by
 obtain⟨hl,ao,cap,rfl,h1,h2,h3,h4⟩:=h
 have hsl:Ay R w (.slice ao l.length cap) 1 (Ad l) l.length:=⟨hl,_,_,rfl,h1,h2,h3,h4⟩
 have hn:l.length<=9223372036854775807:=by unfold maxLen at h2;omega
 have H:=Aia hsl
 clear hl h1 h2 h3 h4 hsl
 go_enter func113,ntmps113
 go_wp2_with fail
 go_loop [8] (fun s=>∃k:Nat,k<=l.length/\s=.int .i64 k/\Hid (∀j (hj:j<l.length),j<k->l[j].toList≠x.toList)) (fun s=>l.length-(intOf s).toNat)
 case atStart=>exact⟨0,Nat.zero_le _,rfl,fun j hj h=>by omega⟩
 case round=>
  obtain⟨k,hk,rfl,hall⟩:=hrel
  by_cases hlt:k<l.length
  ·obtain⟨b,off,rfl,hRb,_,hc⟩:=Eh H.out (by omega)
   have q:=hc k hlt
   clear hc
   by_cases hx:x.toList=l[k].toList
   ·have hxb:(x.toList==l[k].toList)=true:=by simp[hx]
    have hI:=Qq hlt hx.symm hall.out
    have HI:=Aia hI
    clear hx hI
    go_wp2_with fail
    go_ret
    exact⟨A6 HI.out.symm,rfl⟩
   ·have hxb:(x.toList==l[k].toList)=false:=by simp[hx]
    go_wp2_with fail
    go_round
    case rel=>
     refine⟨k+1,by omega,by go_num,fun j hj h=>?_⟩
     by_cases hjk:j=k
     ·subst hjk;exact fun h=>hx h.symm
     ·exact hall.out j hj (by omega)
    case measure=>simp[intOf];omega
  ·have hI:=S8 (l:=l) (x:=x) (fun j hj=>hall.out j hj (by omega))
   have HI:=Aia hI
   clear hI
   go_wp2_with fail
   go_ret
   exact⟨A6 HI.out.symm,rfl⟩
theorem Jf(R:Nat->Prop)(l:List ByteArray)(v:Value)(x:ByteArray)(w:World)(h:Ay R w v 1 (Ad l) l.length):
  Calls Tryz.prog 199 #[v,.string x] w fun e w'=>e=.returned (.bool (Cj l x))/\w=w':=by
 obtain⟨ao,cap,rfl⟩:=h.val
 have H:=Aia h
 clear h
 go_enter func199,ntmps199
 go_wp2_with fail
 refine(Qi R l _ x _ H.out).mono ?_
 rintro e w' ⟨rfl,rfl⟩
 go_wp2_with fail
 go_ret
 exact⟨Ah (Wi l x),rfl⟩
def okN(i:Nat)(c:UInt8):Bool:=decide ((97<=c.toNat/\c.toNat<=122)\/(i≠0/\((48<=c.toNat/\c.toNat<=57)\/c.toNat=45)))
def Bk(s:ByteArray):Bool:=decide (1<=s.size/\s.size<=12)&&(List.range s.size).all (fun i=>okN i (s.data.toList.getD i 0))
theorem Gj{s:ByteArray}(h:¬(1<=s.size/\s.size<=12)):Bk s=false:=by simp only[Bk,decide_eq_false h,Bool.false_and]
theorem Nk(s:ByteArray)(i:Nat)(hi:i<s.size):s.data.toList.getD i 0=s[i]:=by
 rw[List.getD_eq_getElem?_getD,List.getElem?_eq_getElem (show i<s.data.toList.length from hi)];rfl
theorem Fy{s:ByteArray}(i:Nat)(hi:i<s.size)(h:okN i s[i]=false):Bk s=false:=by
 unfold Bk
 rw[Bool.and_eq_false_iff]
 right
 rw[List.all_eq_false]
 exact⟨i,List.mem_range.2 hi,by rw[Nk s i hi,h];simp⟩
theorem Rr{s:ByteArray}(h1:1<=s.size/\s.size<=12)(h:∀i (hi:i<s.size),okN i s[i]=true):Bk s=true:=by
 unfold Bk
 rw[decide_eq_true h1,Bool.true_and,List.all_eq_true]
 intro i hi
 have hi:=List.mem_range.1 hi
 rw[Nk s i hi]
 exact h i hi
theorem Vm(s:ByteArray)(w:World):Calls Tryz.prog 86 #[.string s] w fun e w'=>e=.returned (.bool (Bk s))/\w=w':=by
 by_cases h1:s.size<1
 ·have HB:=Aia (Gj (s:=s) (by omega))
  go_enter func86,ntmps86
  go_wp2_with fail
  go_ret
  exact⟨Ah HB.out.symm,rfl⟩
 by_cases h2:12<s.size
 ·have HB:=Aia (Gj (s:=s) (by omega))
  go_enter func86,ntmps86
  go_wp2_with fail
  go_ret
  exact⟨Ah HB.out.symm,rfl⟩
 go_enter func86,ntmps86
 go_wp2_with fail
 go_loop [3] (fun t=>∃i:Nat,i<=s.size/\t=.int .i64 i/\Hid (∀j (hj:j<s.size),j<i->okN j s[j]=true)) (fun t=>s.size-(intOf t).toNat)
 case atStart=>exact⟨0,Nat.zero_le _,rfl,fun j _ h=>by omega⟩
 case round=>
  obtain⟨i,hi,rfl,hall⟩:=hrel
  by_cases hlt:i<s.size
  ·by_cases h3:97<=(s[i].toNat:Int)
   ·by_cases h4:(s[i].toNat:Int)<=122
    ·
     have hgood:=Aia (show okN i s[i]=true from by unfold okN;exact decide_eq_true (by omega))
     go_wp2_with fail
     go_round
     case rel=>exact⟨i+1,by omega,by go_num,(show ∀j (hj:j<s.size),j<i+1->okN j s[j]=true from fun j hj hji=>by
      by_cases e:j=i
      ·subst e;exact hgood.out
      ·exact hall.out j hj (by omega))⟩
     case measure=>simp[intOf];omega
    ·have h5:48<=(s[i].toNat:Int):=by omega
     have h6:¬(s[i].toNat:Int)<=57:=by omega
     have h7:((s[i].toNat:Int)==45)=false:=by simp;omega
     have hbad:=Aia (Fy i hlt (by unfold okN;exact decide_eq_false (by omega)))
     go_wp2_with fail
     all_goals
      go_ret
      exact⟨Ah hbad.out.symm,rfl⟩
   ·by_cases h5:48<=(s[i].toNat:Int)
    ·by_cases h6:(s[i].toNat:Int)<=57
     ·by_cases hi0:i=0
      ·have hib:((i:Int)==0)=true:=by simp[hi0]
       have HI0:=Aia hi0
       clear hi0
       have hbad:=Aia (Fy i hlt (by have:=HI0.out;unfold okN;exact decide_eq_false (by omega)))
       go_wp2_with fail
       go_ret
       exact⟨Ah hbad.out.symm,rfl⟩
      ·have hib:((i:Int)==0)=false:=by simp[hi0]
       have hgood:=Aia (show okN i s[i]=true from by unfold okN;exact decide_eq_true (by omega))
       go_wp2_with fail
       go_round
       case rel=>exact⟨i+1,by omega,by go_num,(show ∀j (hj:j<s.size),j<i+1->okN j s[j]=true from fun j hj hji=>by
        by_cases e:j=i
        ·subst e;exact hgood.out
        ·exact hall.out j hj (by omega))⟩
       case measure=>simp[intOf];omega
     ·have h7:((s[i].toNat:Int)==45)=false:=by simp;omega
      have hbad:=Aia (Fy i hlt (by unfold okN;exact decide_eq_false (by omega)))
      go_wp2_with fail
      all_goals
       go_ret
       exact⟨Ah hbad.out.symm,rfl⟩
    ·by_cases h7:(s[i].toNat:Int)=45
     ·have h7b:((s[i].toNat:Int)==45)=true:=by simp[h7]
      have H7:=Aia h7
      clear h7
      by_cases hi0:i=0
      ·have hib:((i:Int)==0)=true:=by simp[hi0]
       have HI0:=Aia hi0
       clear hi0
       have hbad:=Aia (Fy i hlt (by have:=HI0.out;have:=H7.out;unfold okN;exact decide_eq_false (by omega)))
       go_wp2_with fail
       go_ret
       exact⟨Ah hbad.out.symm,rfl⟩
      ·have hib:((i:Int)==0)=false:=by simp[hi0]
       have hgood:=Aia (show okN i s[i]=true from by have:=H7.out;unfold okN;exact decide_eq_true (by omega))
       go_wp2_with fail
       go_round
       case rel=>exact⟨i+1,by omega,by go_num,(show ∀j (hj:j<s.size),j<i+1->okN j s[j]=true from fun j hj hji=>by
        by_cases e:j=i
        ·subst e;exact hgood.out
        ·exact hall.out j hj (by omega))⟩
       case measure=>simp[intOf];omega
     ·have h7b:((s[i].toNat:Int)==45)=false:=by simp[h7]
      have hbad:=Aia (Fy i hlt (by unfold okN;exact decide_eq_false (by omega)))
      go_wp2_with fail
      all_goals
       go_ret
       exact⟨Ah hbad.out.symm,rfl⟩
  ·have HB:=Aia (Rr (s:=s) (by omega) (fun j hj=>hall.out j hj (by omega)))
   go_wp2_with fail
   go_ret
   exact⟨Ah HB.out.symm,rfl⟩
theorem pW(R:Nat->Prop)(l:List Int)(v:Value)(x:Int)(w:World)(h:Ay R w v 1 (Ac l) l.length):
  Calls Tryz.prog 158 #[v,.int .i64 x] w fun e w'=>e=.returned (.bool (decide (x∈l)))/\w=w':=by
 obtain⟨hl,ao,cap,rfl,h1,h2,h3,h4⟩:=h
 have hsl:Ay R w (.slice ao l.length cap) 1 (Ac l) l.length:=⟨hl,_,_,rfl,h1,h2,h3,h4⟩
 have hn:l.length<=9223372036854775807:=by unfold maxLen at h2;omega
 have H:=Aia hsl
 clear hl h1 h2 h3 h4 hsl
 go_enter func158,ntmps158
 go_wp2_with fail
 go_loop [5] (fun s=>∃k:Nat,k<=l.length/\s=.int .i64 k/\Hid (∀j (hj:j<l.length),j<k->l[j]≠x)) (fun s=>l.length-(intOf s).toNat)
 case atStart=>exact⟨0,Nat.zero_le _,rfl,fun j hj h=>by omega⟩
 case round=>
  obtain⟨k,hk,rfl,hall⟩:=hrel
  by_cases hlt:k<l.length
  ·obtain⟨b,off,rfl,hRb,_,hc⟩:=Kn H.out (by omega)
   have q:=hc k hlt
   clear hc
   by_cases hx:l[k]=x
   ·have hxb:(l[k]==x)=true:=beq_iff_eq.2 hx
    have HI:=Aia (show x∈l from hx▸List.getElem_mem hlt)
    clear hx
    go_wp2_with fail
    go_ret
    exact⟨Ah (decide_eq_true HI.out).symm,rfl⟩
   ·have hxb:(l[k]==x)=false:=by simp[hx]
    go_wp2_with fail
    go_round
    case rel=>
     refine⟨k+1,by omega,by go_num,fun j hj h=>?_⟩
     by_cases hjk:j=k
     ·subst hjk;exact hx
     ·exact hall.out j hj (by omega)
    case measure=>simp[intOf];omega
  ·have HI:=Aia (show x∉l from fun h=>by
    obtain⟨j,hj,e⟩:=List.mem_iff_getElem.1 h
    exact hall.out j hj (by omega) e)
   go_wp2_with fail
   go_ret
   exact⟨Ah (decide_eq_false HI.out).symm,rfl⟩
theorem drewN_drewN(w:World)(a b:Nat):∃c,(w.drewN a).drewN b=w.drewN c:=⟨a+b,World.drewN_drewN w a b⟩
end Go.Proofs.YtikehilbmldadaaGreatDoor
