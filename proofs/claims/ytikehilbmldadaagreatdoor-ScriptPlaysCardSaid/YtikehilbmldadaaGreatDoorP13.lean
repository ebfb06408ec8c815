import Derived.Test.YtikehilbmldadaaGreatDoorP12
set_option maxHeartbeats 4000000
set_option linter.unusedVariables false
namespace Go.Proofs.YtikehilbmldadaaGreatDoor
open Proofs.Tryz YtikehilbmldadaaGreatDoor.Tryz RowKit
open Go renaming World->V,Value->ZE,Calls->ZH,Value.int->I,IntKind.i64->J,Value.pointer->ZA,Value.string->ZB,Obj.cells->ZC,Ending.returned->ZD,Value.bool->ZK,Value.tuple->ZM,Proofs.Tryz.prog->ZI
open Option renaming some->U,none->O
theorem W0(t:Nat)(d s:Int)(st:St)(w:V)(h:De w t d s st):
  ZH ZI 54 #[ZA (U ⟨t,0,O⟩)] w fun e w'=>e=ZD (ZB st.str)/\w=w':=by
 obtain⟨c0,c1,a,f⟩:=Bf h;clear h;go_enter func54,ntmps54;go_wp2_with fail;go_ret;exact⟨rfl,rfl⟩
def B8(w:V)(t:Nat)(delay since:Int)(st:St):Prop:=w.heap[t]? =U (ZC #[I J delay,I J since,ZB st.str] 141)
theorem B8.since{w:V}{t:Nat}{d s:Int}{st:St}(h:B8 w t d s st)(a:Int):B8 (w.setCell ⟨t,1,O⟩ (I J a)) t d a st:=by
 unfold B8 at h ⊢;rw[Ah _ h];rfl
theorem B8.status{w:V}{t:Nat}{d s:Int}{st:St}(h:B8 w t d s st)(st':St):B8 (w.setCell ⟨t,2,O⟩ (ZB st'.str)) t d s st':=by
 unfold B8 at h ⊢;rw[Ah _ h];rfl
theorem B8.drew{w:V}{t:Nat}{d s:Int}{st:St}(q:Nat)(h:B8 w t d s st):B8 (w.drewN q) t d s st:=Kb q h
structure Zu (d s:Int) (st:St):Prop where
 s0:0<=s
 s1:s<=d
 live:st=.ok\/st=.failed->s=0
 exp:st=.expired->s<d
theorem Zu.next{d s:Int}{st:St}(h:Zu d s st)(l:List ByteArray):Zu d (St.next d s st l).1 (St.next d s st l).2:=by
 obtain⟨h0,h1,h2,h3⟩:=h;have f:∀x:St,(x=.expired\/s=0)->Zu d (St.close d s x).1 (St.close d s x).2:=by
  intro x e;unfold St.close;split
  ·rename_i hc;exact⟨h0,h1,(by simp),(by simp)⟩
  ·rename_i hc;refine⟨h0,h1,(fun a=>?_),(fun a=>?_)⟩
   ·simp only at a;rcases e with e|e
    ·subst e;rcases a with h|h<;>cases h
    ·exact e
   ·simp only at a;have:¬d<=s:=fun h=>hc ⟨a,h⟩;show s<d
    omega
 cases st with
 |stopped=>exact⟨h0,h1,(fun h=>by rcases h with h|h<;>cases h),(fun h=>by cases h)⟩
 |expired=>
  have g:=h3 rfl;show Zu d (St.close d (s+1) .expired).1 (St.close d (s+1) .expired).2
  unfold St.close;split
  ·exact⟨by show 0<=s+1;omega,by show s+1<=d;omega,(fun h=>by rcases h with h|h<;>cases h),(fun h=>by cases h)⟩
  ·rename_i hc;have:¬d<=s+1:=fun h=>hc ⟨rfl,h⟩;exact⟨by show 0<=s+1;omega,by show s+1<=d;omega,(fun h=>by rcases h with h|h<;>cases h),(fun _=>by show s+1<d;omega)⟩
 |ok=>exact f _ (.inr (h2 (.inl rfl)))
 |failed=>exact f _ (.inr (h2 (.inr rfl)))
theorem Tz(t:Nat)(d s:Int)(v:ZE)(w:V)(h:B8 w t d s .stopped):
  ZH ZI 175 #[ZA (U ⟨t,0,O⟩),v] w fun e w'=>e=ZD (ZM #[])/\B8 w' t d s .stopped/\Ac (· =t) w w':=by
 have H:=G h;obtain⟨c0,c1,a,f⟩:=Bf h;unfold St.str at a;clear h;go_enter func175,ntmps175;go_wp2_with fail;refine bodyPost_ret (results_none rfl _ _ _) rfl ?_;exact⟨rfl,H.out,Ac.refl _ _⟩
theorem T9(t:Nat)(d s:Int)(v:ZE)(w:V)(h:B8 w t d s .expired)(h0:0<=s)(h1:s<d)(h2:d<=1000):
  ZH ZI 175 #[ZA (U ⟨t,0,O⟩),v] w fun e w'=>e=ZD (ZM #[])/\B8 w' t d (s+1) (St.close d (s+1) .expired).2/\Ac (· =t) w w':=by
 have H:=G h;obtain⟨c0,c1,q,K⟩:=Bf h;unfold St.str at q;clear h;have a:=G (H.since (s+1));have f:=G (Af w t 1 (I J (s+1)));go_enter func175,ntmps175;by_cases p:d=s+1
 ·have i:(St.close d (s+1) .expired).2=.stopped:=by simp[St.close,p]
  rw[i];have j:(s+1==d)=true:=by simp[p]
  go_wp2_with fail;generalize World.setCell _ _ _=w1 at a f ⊢;obtain⟨u,y,m,A⟩:=Bf a.out;simp only[St.str]at m;go_quiet (fail);have h2:=a.drew nq;have g:=Ac.trans f (Ev (· =t) w1 nq);generalize World.drewN _ _=w2 at h2 g ⊢;have h3:=G (h2.status .stopped);have l:=G (g.trans (Af w2 t 2 (ZB St.stopped.str)));obtain⟨C,D,n,E⟩:=Bf h2;clear h2 g;simp only[St.str]at n;go_wp2_with fail;go_end0;exact⟨rfl,h3.out,l.out⟩
 ·have i:(St.close d (s+1) .expired).2=.expired:=by
   have:¬d<=s+1:=by omega
   simp[St.close,this]
  rw[i];have j:(s+1==d)=false:=by simp;omega
  go_wp2_with fail;generalize World.setCell _ _ _=w1 at a f ⊢;obtain⟨u,y,m,A⟩:=Bf a.out;simp only[St.str]at m;go_quiet (fail);have h2:=a.drew nq;have g:=Ac.trans f (Ev (· =t) w1 nq);generalize World.drewN _ _=w2 at h2 g ⊢;obtain⟨C,D,n,E⟩:=Bf h2;have h3:=G h2;have l:=G g;clear h2 g;simp only[St.str]at n;go_wp2_with fail;go_end0;exact⟨rfl,h3.out,l.out⟩
theorem Qs(R:Nat->Prop)(t:Nat)(d:Int)(st:St)(l:List ByteArray)(v:ZE)(w:V)(h:B8 w t d 0 st)(h0:0<=d)(g:st=.ok\/st=.failed)(D:Av R w v 1 (Aj l) l.length)(X:¬R t):
  ZH ZI 175 #[ZA (U ⟨t,0,O⟩),v] w fun e w'=>e=ZD (ZM #[])/\B8 w' t d 0 (St.next d 0 st l).2/\Ac (· =t) w w':=by
 obtain⟨ao,cap,rfl⟩:=D.val;have H:=G h;obtain⟨c0,c1,T,cf⟩:=Bf h;have n:=G (h.status .ok);have p:=G (Af w t 2 (ZB St.ok.str));have u:=G (D.keep p (fun b M e=>X (e▸M)));have q:=G D;clear h D H;have y:Hid (B3 l St.expired.str=true->(St.next d 0 st l).2=(St.close d 0 .expired).2):=G (by rcases g with rfl|rfl<;>intro h<;>simp[St.next,h]);have A:Hid (B3 l St.expired.str=false->B3 l St.failed.str=true->(St.next d 0 st l).2=.failed):=G (by rcases g with rfl|rfl<;>intro h h2<;>simp[St.next,h,h2,St.close]);have C:Hid (B3 l St.expired.str=false->B3 l St.failed.str=false->(St.next d 0 st l).2=.ok):=G (by rcases g with rfl|rfl<;>intro h h2<;>simp[St.next,h,h2,St.close]);generalize(St.next d 0 st l).2=nx at y A C ⊢;have E:Hid (decide (0<=G9 l St.failed.str)=B3 l St.failed.str):=Nn l _;have se:Hid (decide (0<=G9 l St.expired.str)=B3 l St.expired.str):=Nn l _;simp only[St.str]at E se;go_enter func175,ntmps175;rcases g with rfl|rfl;all_goals
  simp only[St.str]at T n p u;go_wp2_with fail;generalize World.setCell _ _ _=w1 at n p u ⊢;obtain⟨x0,x1,x2,xf⟩:=Bf (show B8 w1 t d 0 .ok from n.out);refine(S8 R l _ _ w1 u.out).mono ?_;rintro e w' ⟨rfl,rfl⟩;have L:=G ((show B8 w1 t d 0 .ok from n.out).status .failed);have S:=G (p.trans (Af w1 t 2 (ZB St.failed.str)));simp only[St.str]at L S;go_upto_if 13 with fail;go_cut [] (fun wx=>∃st2:St,Hid (B8 wx t d 0 st2)/\Hid (Ac (· =t) w wx)/\Hid ((B3 l St.failed.str=true/\st2=.failed)\/(B3 l St.failed.str=false/\st2=.ok)));case first=>
   by_cases Z:0<=G9 l (⟨#[102,97,105,108,101,100]⟩:ByteArray)
   ·have j:Hid (B3 l St.failed.str=true):=(E.symm.trans (On Z))
    go_wp2_with fail;go_meet;exact⟨.failed,L,S,.inl ⟨j.out,rfl⟩⟩
   ·have j:Hid (B3 l St.failed.str=false):=(E.symm.trans (N1 Z))
    go_wp2_with fail;go_meet;exact⟨.ok,n,p,.inr ⟨j.out,rfl⟩⟩
  case rest=>
  obtain⟨st2,h2,Q,f⟩:=hcut;have K:=G (q.keep Q (fun b M e=>X (e▸M)));obtain⟨y0,y1,y2,yf⟩:=Bf h2.out;clear n p u q x0 x1 x2 xf L S E c0 c1 T cf;go_wp2_with fail;refine(S8 R l _ _ wc K.out).mono ?_;rintro e w' ⟨rfl,rfl⟩;by_cases hx:0<=G9 l (⟨#[101,120,112,105,114,101,100]⟩:ByteArray)
  ·have j:Hid (B3 l St.expired.str=true):=(se.symm.trans (On hx))
   have h3:=G ((h2.status .expired).since 0);have s:=G ((Q.trans (Af wc t 2 (ZB St.expired.str))).trans (Af _ t 1 (I J 0)));simp only[St.str]at h3 s;have m:=G (y j.out);clear y A C f;by_cases Y:d=0
   ·have N:(St.close d 0 .expired).2=.stopped:=by simp[St.close,Y]
    rw[N]at m;have P:((0:Int)==d)=true:=by simp[Y]
    go_wp2_with fail;generalize World.setCell (World.setCell _ _ _) _ _=w4 at h3 s ⊢;obtain⟨z0,z1,z2,zf⟩:=Bf (show B8 w4 t d 0 .expired from h3.out);simp only[St.str]at z2;go_quiet (fail);have a:=(show B8 w4 t d 0 .expired from h3.out).drew nq;have i:=Ac.trans s (Ev (· =t) w4 nq);generalize World.drewN _ _=w5 at a i ⊢;have h5:=G (a.status .stopped);have k5:=G (i.trans (Af w5 t 2 (ZB St.stopped.str)));obtain⟨u0,u1,u2,uf⟩:=Bf a;simp only[St.str]at u2;clear a i;go_wp2_with fail;go_end0;exact⟨rfl,by rw[m.out];exact h5.out,k5.out⟩
   ·have N:(St.close d 0 .expired).2=.expired:=by
     have:¬d<=0:=by omega
     simp[St.close,this]
    rw[N]at m;have P:((0:Int)==d)=false:=by simp;omega
    go_wp2_with fail;generalize World.setCell (World.setCell _ _ _) _ _=w4 at h3 s ⊢;obtain⟨z0,z1,z2,zf⟩:=Bf (show B8 w4 t d 0 .expired from h3.out);simp only[St.str]at z2;go_quiet (fail);have a:=G ((show B8 w4 t d 0 .expired from h3.out).drew nq);have i:=G (Ac.trans s (Ev (· =t) w4 nq));generalize World.drewN _ _=w5 at a i ⊢;go_wp2_with fail;go_end0;exact⟨rfl,by rw[m.out];exact a.out,i.out⟩
  ·have j:Hid (B3 l St.expired.str=false):=(se.symm.trans (N1 hx))
   have m:Hid (nx=st2):=by
    rcases f.out with⟨h,rfl⟩|⟨h,rfl⟩
    ·exact A j h
    ·exact C j h
   rcases f.out with⟨hh,rfl⟩|⟨hh,rfl⟩;all_goals
    clear y A C f hh;simp only[St.str]at y2;go_wp2_with fail;go_quiet (fail);have a:=G (h2.drew nq);have i:=G (Ac.trans Q (Ev (· =t) wc nq));generalize World.drewN _ _=w5 at a i ⊢;go_wp2_with fail;go_end0;exact⟨rfl,by rw[m.out];exact a.out,i.out⟩
theorem gD(R:Nat->Prop)(t:Nat)(d s:Int)(st:St)(l:List ByteArray)(v:ZE)(w:V)(h:B8 w t d s st)(hi:Zu d s st)(i:d<=1000)(g:Av R w v 1 (Aj l) l.length)(f:¬R t):
  ZH ZI 175 #[ZA (U ⟨t,0,O⟩),v] w fun e w'=>e=ZD (ZM #[])/\B8 w' t d (St.next d s st l).1 (St.next d s st l).2/\Ac (· =t) w w':=by
 have h0:=hi.s0;have h1:=hi.s1;cases a:st
 ·subst a;obtain rfl:=hi.live (.inl rfl);have:=Qs R t d .ok l v w h h1 (.inl rfl) g f;have e:(St.next d 0 .ok l).1=0:=St.close_fst _ _ _;rw[e];exact this
 ·subst a;obtain rfl:=hi.live (.inr rfl);have:=Qs R t d .failed l v w h h1 (.inr rfl) g f;have e:(St.next d 0 .failed l).1=0:=St.close_fst _ _ _;rw[e];exact this
 ·subst a;have:=T9 t d s v w h h0 (hi.exp rfl) i;have e:(St.next d s .expired l).1=s+1:=St.close_fst _ _ _;rw[e];exact this
 ·subst a;exact Tz t d s v w h
section
open Go.RowKit Go.Extern.Stop Go.Stop Go.Extern
def P9(w:V)(fb:Nat)(at_:Int)(v:ZE):Prop:=w.heap[fb]? =U (ZC #[I J at_,v] 156)
end
structure Dd where
 closed:Int
 opn:Int
 now:Int
 last:Int
 reset:Bool
 kicks:Int
structure K6 (m:Dd):Prop where
 c0:0<=m.closed
 c1:m.closed<=1000
 o0:1<=m.opn
 o1:m.opn<=1000
 l0:0<=m.last
 ln:m.last<=m.now
 n1:m.now<=1099511627776
 k0:0<=m.kicks
 k1:m.kicks<=1000000
def Ht(m:Dd):Bool:=!m.reset&&decide (m.closed<m.now-m.last)
def Fk(m:Dd):Nat:=if m.reset=true then 11 else if 1099511627776<=m.now then 2 else 0
def Ec(m:Dd):Dd:=if m.reset=true then m else if 1099511627776<=m.now then m else { m with now:=m.now+1,reset:=decide (m.closed+m.opn<m.now+1-m.last)}
def Oy(m:Dd):Nat:=if Ht m=true then 0 else 11
def I7(m:Dd):Dd:=if Ht m=true then { m with last:=m.now,kicks:=m.kicks+1} else { m with reset:=true}
def Ox(m:Dd):Dd:={ m with reset:=false,last:=m.now}
theorem Wu{m:Dd}(h:Ht m=false):Oy m=11:=by simp[Oy,h]
theorem Mh{m:Dd}(h:Ht m=true):Oy m=0:=by simp[Oy,h]
theorem Zg{m:Dd}(h:Ht m=false):I7 m= { m with reset:=true}:=by simp[I7,h]
theorem Nj{m:Dd}(h:Ht m=true):I7 m= { m with last:=m.now,kicks:=m.kicks+1}:=by simp[I7,h]
theorem Adk{m:Dd}(h:K6 m):K6 (Ec m):=by
 unfold Ec;split
 ·exact h
 ·split
  ·exact h
  ·have:=h.ln;have:=h.n1;exact⟨h.c0,h.c1,h.o0,h.o1,h.l0,by show m.last<=m.now+1;omega,by show m.now+1<=_;omega,h.k0,h.k1⟩
theorem Adl{m:Dd}(h:K6 m)(a:m.kicks+1<=1000000):K6 (I7 m):=by
 unfold I7;have:=h.l0;have:=h.ln;have:=h.k0;split
 ·exact⟨h.c0,h.c1,h.o0,h.o1,by show 0<=m.now;omega,Int.le_refl _,h.n1,by show 0<=m.kicks+1;omega,a⟩
 ·exact⟨h.c0,h.c1,h.o0,h.o1,h.l0,h.ln,h.n1,h.k0,h.k1⟩
theorem zH{m:Dd}(h:K6 m):K6 (Ox m):=by
 have:=h.l0;have:=h.ln;exact⟨h.c0,h.c1,h.o0,h.o1,by show 0<=m.now;omega,Int.le_refl _,h.n1,h.k0,h.k1⟩
def zJ(m:Dd):Obj:=ZC #[I J m.closed,I J m.opn,I J m.now,I J m.last,ZK m.reset,I J m.kicks] 116
def D4(w:V)(d:Nat)(m:Dd):Prop:=w.heap[d]? =U (zJ m)
theorem Kc{w:V}{d:Nat}{m:Dd}(h:D4 w d m):
  w.cell? ⟨d,0,O⟩=U (I J m.closed)/\w.cell? ⟨d,1,O⟩=U (I J m.opn)/\w.cell? ⟨d,2,O⟩=U (I J m.now)/\w.cell? ⟨d,3,O⟩=U (I J m.last)/\w.cell? ⟨d,4,O⟩=U (ZK m.reset)/\w.cell? ⟨d,5,O⟩=U (I J m.kicks)/\∀o,w.frozen? ⟨d,o,O⟩=false:=by
 unfold D4 zJ at h;simp[World.cell?,World.frozen?,h]
theorem D4.keep{S:Nat->Prop}{w w':V}{d:Nat}{m:Dd}(h:D4 w d m)(k:Ac S w w')(hS:¬S d):D4 w' d m:=k.get h hS
theorem D4.set2{w:V}{d:Nat}{m:Dd}(h:D4 w d m)(x:Int):D4 (w.setCell ⟨d,2,O⟩ (I J x)) d { m with now:=x}:=by
 unfold D4 zJ at h ⊢;rw[Ah _ h];rfl
theorem D4.set3{w:V}{d:Nat}{m:Dd}(h:D4 w d m)(x:Int):D4 (w.setCell ⟨d,3,O⟩ (I J x)) d { m with last:=x}:=by
 unfold D4 zJ at h ⊢;rw[Ah _ h];rfl
theorem D4.set4{w:V}{d:Nat}{m:Dd}(h:D4 w d m)(x:Bool):D4 (w.setCell ⟨d,4,O⟩ (ZK x)) d { m with reset:=x}:=by
 unfold D4 zJ at h ⊢;rw[Ah _ h];rfl
theorem D4.set5{w:V}{d:Nat}{m:Dd}(h:D4 w d m)(x:Int):D4 (w.setCell ⟨d,5,O⟩ (I J x)) d { m with kicks:=x}:=by
 unfold D4 zJ at h ⊢;rw[Ah _ h];rfl
theorem J1(S:Nat->Prop)(w:V)(q:Nat):Ac S w (w.drewN q):=(Al (Ag q (R1 w.heap.size w))).mono (fun _ _ h=>h.elim)
theorem Ahf(c o:Int)(w:V)(h0:0<=c)(h1:c<=1000)(h2:1<=o)(h3:o<=1000):
  ZH ZI 74 #[I J c,I J o] w fun e w'=>e=ZD (ZM #[ZA (U ⟨w.heap.size,0,O⟩),.nilIface])/\D4 w' w.heap.size ⟨c,o,0,0,false,0⟩/\Below w.heap.size w w':=by
 have n1:=G (Ab w (zJ ⟨c,o,0,0,false,0⟩));have a:=G ((R1 w.heap.size w).alloc (Y2 _) (zJ ⟨c,o,0,0,false,0⟩));go_enter func74,ntmps74;go_wp2_with fail;refine bodyPost_ret (results_tmp2 rfl _ _ _) rfl ?_;exact⟨rfl,n1.out,a.out⟩
theorem Wt(d:Nat)(m:Dd)(w:V)(h:D4 w d m)(ok:K6 m):
  ZH ZI 156 #[ZA (U ⟨d,0,O⟩)] w fun e w'=>e=ZD (ZK (Ht m))/\Ac (fun _=>False) w w':=by
 obtain⟨c0,c1,i,j,a,l,n⟩:=Kc h;obtain⟨o1,q,s,t,u,v,y,A,C⟩:=ok;have p:=Zz0 (m.now-m.last) (by omega);unfold Ht;clear h;cases f:m.reset
 ·rw[f]at a;by_cases g:m.closed<m.now-m.last
  ·go_enter func156,ntmps156;go_wp2_with fail;go_quiet (fail);go_wp2_with fail;go_ret;exact⟨Am (by simp[g]),J1 _ _ _⟩
  ·go_enter func156,ntmps156;go_wp2_with fail;go_quiet (fail);go_wp2_with fail;go_ret;exact⟨Am (by simp),J1 _ _ _⟩
 ·rw[f]at a;go_enter func156,ntmps156;go_wp2_with fail;go_quiet (fail);go_wp2_with fail;go_ret;exact⟨Am (by simp),J1 _ _ _⟩
theorem zF(B:Nat)(sa:Nat->Addr)(d:Nat)(m:Dd)(w:V)(h:D4 w d m)(ok:K6 m)(j:Fs B sa w):
  ZH ZI 84 #[ZA (U ⟨d,0,O⟩)] w fun e w'=>e=ZD (errv sa (Fk m))/\D4 w' d (Ec m)/\Ac (· =d) w w':=by
 obtain⟨c0,c1,n,p,g,q,s⟩:=Kc h;obtain⟨t,g1,g2,v,y,A,g6,g7,C,D,u⟩:=j.all;obtain⟨o1,S,T,X,Y,Z,o7,o8,o9⟩:=ok;have H:=G h;clear h j t g2 v y A g6 g7 C D;unfold Fk Ec;cases l:m.reset
 ·rw[l]at g;by_cases a:1099511627776<=m.now
  ·rw[if_neg (by decide),if_pos a,if_neg (by decide),if_pos a];go_enter func84,ntmps84;go_wp2_with fail;go_ret;exact⟨rfl,H.out,Ac.refl _ _⟩
  ·rw[if_neg (by decide),if_neg a,if_neg (by decide),if_neg a];have h1:=H.set2 (m.now+1);have k1:=Af w d 2 (I J (m.now+1));have f:=G h1;have i:=G k1;clear h1 k1 H;have E:=Zz0 (m.now+1-m.last) (by omega);have K:=Zz0 (m.closed+m.opn) (by omega);go_enter func84,ntmps84;go_wp2_with fail;generalize World.setCell _ _ _=w1 at f i ⊢;obtain⟨L,M,N,P,Q,R,xf⟩:=Kc f.out;clear c0 c1 n p g q s;simp only at L M N P Q R;go_region;all_goals
    go_wp2_with fail;go_ret;exact⟨rfl,f.set4 _,(i.trans (Af w1 d 4 _)).drew⟩
 ·rw[l]at g;rw[if_pos rfl,if_pos rfl];go_enter func84,ntmps84;go_wp2_with fail;go_ret;exact⟨rfl,H.out,Ac.refl _ _⟩
theorem zI(B:Nat)(sa:Nat->Addr)(d:Nat)(m:Dd)(w:V)(h:D4 w d m)(ok:K6 m)(n:Fs B sa w)(S:B<=d):
  ZH ZI 157 #[ZA (U ⟨d,0,O⟩)] w fun e w'=>e=ZD (errv sa (Oy m))/\D4 w' d (I7 m)/\Ac (· =d) w w':=by
 have H:=G h;have g:=G n;have l:=G ok;have C:=ok.k0;have D:=ok.k1;clear h n ok;go_enter func157,ntmps157;go_wp2_with fail;refine(Wt d m w H l.out).mono ?_;rintro e w1 ⟨rfl,k1⟩;have h1:=H.keep k1 (fun h=>h);have s1:=g.keep k1 (fun _ h=>h.elim);obtain⟨c0,c1,L,M,N,P,Q⟩:=Kc h1;obtain⟨q,g1,g2,s,t,u,g6,g7,v,y,a⟩:=s1.all;have i:=g.nb 10 (by decide);have E:=G (h1.set4 true);have K:=G ((h1.set3 m.now).set5 (m.kicks+1));have j:Hid (Ac (· =d) w w1):=k1.mono (fun _ _ h=>h.elim);have R:(w1.setCell ⟨d,4,O⟩ (ZK true)).cell? ⟨10,0,O⟩=U (.iface 372 (ZA (U (sa 10)))):=by
  rw[(Af w1 d 4 (ZK true)).cell (p:=⟨10,0,O⟩) (R3 _ ⟨10,0,O⟩ a) (fun A=>by have:10=d:=A;have:10<B:=i;omega)];exact a
 clear h1 s1 q g1 g2 s t u g6 g7 v y k1 H g l;cases f:Ht m
 ·go_wp2_with fail;go_ret;rw[Wu f,Zg f];exact⟨rfl,E.out,j.trans (Af w1 d 4 _)⟩
 ·go_wp2_with fail;go_ret;rw[Mh f,Nj f];exact⟨rfl,K.out,(j.trans (Af w1 d 3 _)).trans (Af _ d 5 _)⟩
theorem Mg(d:Nat)(m:Dd)(w:V)(h:D4 w d m):ZH ZI 53 #[ZA (U ⟨d,0,O⟩)] w fun e w'=>e=ZD (ZK m.reset)/\w=w':=by
 obtain⟨c0,c1,a,f,g,i,j⟩:=Kc h;clear h;go_enter func53,ntmps53;go_wp2_with fail;go_ret;exact⟨rfl,rfl⟩
theorem P4(d:Nat)(m:Dd)(w:V)(h:D4 w d m):ZH ZI 26 #[ZA (U ⟨d,0,O⟩)] w fun e w'=>e=ZD (I J m.now)/\w=w':=by
 obtain⟨c0,c1,a,f,g,i,j⟩:=Kc h;clear h;go_enter func26,ntmps26;go_wp2_with fail;go_ret;exact⟨rfl,rfl⟩
theorem tH(d:Nat)(m:Dd)(w:V)(h:D4 w d m):ZH ZI 27 #[ZA (U ⟨d,0,O⟩)] w fun e w'=>e=ZD (I J m.kicks)/\w=w':=by
 obtain⟨c0,c1,a,f,g,i,j⟩:=Kc h;clear h;go_enter func27,ntmps27;go_wp2_with fail;go_ret;exact⟨rfl,rfl⟩
theorem tG(d:Nat)(m:Dd)(w:V)(h:D4 w d m):ZH ZI 188 #[ZA (U ⟨d,0,O⟩)] w fun e w'=>e=ZD (ZM #[])/\D4 w' d (Ox m)/\Ac (· =d) w w':=by
 obtain⟨c0,c1,a,f,g,i,j⟩:=Kc h;have H:=G h;clear h;unfold Ox;go_enter func188,ntmps188;go_wp2_with fail;first|(go_end0;exact⟨rfl,(H.set4 false).set3 m.now,(Af w d 4 _).trans (Af _ d 3 _)⟩)|(go_region;all_goals(go_end0;first|exact⟨rfl,(H.set4 false).set3 m.now,(Af w d 4 _).trans (Af _ d 3 _)⟩|exact⟨rfl,(H.set3 m.now).set4 false,(Af w d 3 _).trans (Af _ d 4 _)⟩))
section
variable {B:Nat} {sa:Nat->Addr} {w0:V} {d:Nat} {c o last k ks:Int} {w:V}
end
def pG(m:Dd):Obj:=ZC #[I J m.closed,I J m.opn,I J m.now,I J m.last,I J m.kicks,ZK m.reset] 131
def Dc(w:V)(d:Nat)(m:Dd):Prop:=w.heap[d]? =U (pG m)
theorem D5{w:V}{d:Nat}{m:Dd}(h:Dc w d m):
  w.cell? ⟨d,0,O⟩=U (I J m.closed)/\w.cell? ⟨d,1,O⟩=U (I J m.opn)/\w.cell? ⟨d,2,O⟩=U (I J m.now)/\w.cell? ⟨d,3,O⟩=U (I J m.last)/\w.cell? ⟨d,4,O⟩=U (I J m.kicks)/\w.cell? ⟨d,5,O⟩=U (ZK m.reset)/\∀o,w.frozen? ⟨d,o,O⟩=false:=by
 unfold Dc pG at h;simp[World.cell?,World.frozen?,h]
theorem Dc.keep{S:Nat->Prop}{w w':V}{d:Nat}{m:Dd}(h:Dc w d m)(k:Ac S w w')(hS:¬S d):Dc w' d m:=k.get h hS
theorem Dc.set2{w:V}{d:Nat}{m:Dd}(h:Dc w d m)(x:Int):Dc (w.setCell ⟨d,2,O⟩ (I J x)) d { m with now:=x}:=by
 unfold Dc pG at h ⊢;rw[Ah _ h];rfl
theorem Dc.set3{w:V}{d:Nat}{m:Dd}(h:Dc w d m)(x:Int):Dc (w.setCell ⟨d,3,O⟩ (I J x)) d { m with last:=x}:=by
 unfold Dc pG at h ⊢;rw[Ah _ h];rfl
theorem Dc.set4{w:V}{d:Nat}{m:Dd}(h:Dc w d m)(x:Int):Dc (w.setCell ⟨d,4,O⟩ (I J x)) d { m with kicks:=x}:=by
 unfold Dc pG at h ⊢;rw[Ah _ h];rfl
theorem Dc.set5{w:V}{d:Nat}{m:Dd}(h:Dc w d m)(x:Bool):Dc (w.setCell ⟨d,5,O⟩ (ZK x)) d { m with reset:=x}:=by
 unfold Dc pG at h ⊢;rw[Ah _ h];rfl
theorem Dc.drew{w:V}{d:Nat}{m:Dd}(h:Dc w d m)(n:Nat):Dc (w.drewN n) d m:=h.keep (J1 (fun _=>False) w n) (fun h=>h)
theorem Wi(d:Nat)(m:Dd)(w:V)(h:Dc w d m)(ok:K6 m):
  ZH ZI 176 #[ZA (U ⟨d,0,O⟩)] w fun e w'=>e=ZD (ZK (Ht m))/\∃q,w'=w.drewN q:=by
 obtain⟨c0,c1,g,i,j,a,l⟩:=D5 h;obtain⟨o1,s,t,u,v,y,A,C,D⟩:=ok;have p:=Zz0 (m.last+m.closed) (by omega);unfold Ht;clear h;cases f:m.reset
 ·rw[f]at a;by_cases n:m.last+m.closed<m.now
  ·go_enter func176,ntmps176;go_wp2_with fail;go_quiet (fail);go_wp2_with fail;go_ret;exact⟨Am (by simp;omega),_,rfl⟩
  ·go_enter func176,ntmps176;go_wp2_with fail;go_quiet (fail);go_wp2_with fail;go_ret;exact⟨Am (by simp;omega),_,rfl⟩
 ·rw[f]at a;go_enter func176,ntmps176;go_wp2_with fail;go_quiet (fail);go_wp2_with fail;go_ret;exact⟨Am (by simp),_,rfl⟩
theorem Af0(d:Nat)(m:Dd)(w:V)(h:Dc w d m)(ok:K6 m):
  ZH ZI 172 #[ZA (U ⟨d,0,O⟩)] w fun e w'=>e=ZD (I J (Fk m:Nat))/\Dc w' d (Ec m)/\Ac (· =d) w w':=by
 obtain⟨c0,c1,l,n,p,i,q⟩:=D5 h;obtain⟨o1,K,L,M,N,P,Q,R,S⟩:=ok;have H:=G h;clear h;unfold Fk Ec;cases j:m.reset
 ·rw[j]at i;by_cases f:1099511627776<=m.now
  ·rw[if_neg (by decide),if_pos f,if_neg (by decide),if_pos f];go_enter func172,ntmps172;go_wp2_with fail;go_ret;exact⟨rfl,H.out,Ac.refl _ _⟩
  ·rw[if_neg (by decide),if_neg f,if_neg (by decide),if_neg f];have h1:=H.set2 (m.now+1);have k1:=Af w d 2 (I J (m.now+1));have a:=G h1;have g:=G k1;clear h1 k1 H;have s:=Zz0 (m.last+m.closed) (by omega);have t:=Zz0 (m.last+m.closed+m.opn) (by omega);go_enter func172,ntmps172;go_wp2_with fail;generalize World.setCell _ _ _=w1 at a g ⊢;obtain⟨u,v,y,A,C,D,T⟩:=D5 a.out;clear c0 c1 l n p i q;simp only at u v y A C D;go_quiet (fail);by_cases E:m.last+m.closed+m.opn<m.now+1
   ·go_wp2_with fail;go_ret;rw[On (show m.closed+m.opn<m.now+1-m.last by omega)];exact⟨rfl,(a.drew _).set5 _,g.trans ((J1 _ _ _).trans (Af _ d 5 _))⟩
   ·go_wp2_with fail;go_ret;rw[N1 (show ¬m.closed+m.opn<m.now+1-m.last by omega)];have e:({ m with now:=m.now+1,reset:=false}:Dd)= { m with now:=m.now+1}:=by rw[<-j]
    rw[e];exact⟨rfl,a.drew _,g.trans (J1 _ _ _)⟩
 ·rw[j]at i;rw[if_pos rfl,if_pos rfl];go_enter func172,ntmps172;go_wp2_with fail;go_ret;exact⟨rfl,H.out,Ac.refl _ _⟩
theorem Af1(d:Nat)(m:Dd)(w:V)(h:Dc w d m)(ok:K6 m):
  ZH ZI 177 #[ZA (U ⟨d,0,O⟩)] w fun e w'=>e=ZD (I J (Oy m:Nat))/\Dc w' d (I7 m)/\Ac (· =d) w w':=by
 have H:=G h;have g:=G ok;have i:=ok.k0;have j:=ok.k1;clear h ok;go_enter func177,ntmps177;go_wp2_with fail;refine(Wi d m w H g.out).mono ?_;rintro e w1 ⟨rfl,q,rfl⟩;have h1:=H.drew q;have k1:Ac (· =d) w (w.drewN q):=J1 _ _ _;generalize w.drewN q=w1 at h1 k1 ⊢;obtain⟨c0,c1,p,s,t,u,v⟩:=D5 h1;have l:=G (h1.set5 true);have n:=G ((h1.set3 m.now).set4 (m.kicks+1));have f:=G k1;clear h1 k1 H g;cases a:Ht m
 ·go_wp2_with fail;go_ret;rw[Wu a,Zg a];exact⟨rfl,l.out,f.trans (Af w1 d 5 _)⟩
 ·go_wp2_with fail;go_ret;rw[Mh a,Nj a];exact⟨rfl,n.out,(f.trans (Af w1 d 3 _)).trans (Af _ d 4 _)⟩
