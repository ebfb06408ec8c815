import Derived.Test.YtikehilbmldadaaGreatDoorP07
import Derived.Test.YtikehilbmldadaaGreatDoorP05
set_option maxHeartbeats 4000000
set_option maxRecDepth 100000
set_option linter.unusedVariables false
namespace Go.Proofs.YtikehilbmldadaaGreatDoor
open Proofs.Tryz YtikehilbmldadaaGreatDoor.Tryz RowKit
open Go renaming World->V,Value->ZE,Calls->ZH,Value.int->I,IntKind.i64->J,Value.pointer->ZA,Value.string->ZB,Obj.cells->ZC,Ending.returned->ZD,Proofs.Tryz.prog->ZI
open Option renaming some->U,none->O
inductive St where|ok|failed|expired|stopped deriving DecidableEq
def St.str:St->ByteArray
 |.ok=>⟨#[111,107]⟩
 |.failed=>⟨#[102,97,105,108,101,100]⟩
 |.expired=>⟨#[101,120,112,105,114,101,100]⟩
 |.stopped=>⟨#[115,116,111,112,112,101,100]⟩
def De(w:V)(t:Nat)(delay since:Int)(st:St):Prop:=w.heap[t]? =U (ZC #[I J delay,I J since,ZB st.str] 190)
theorem Bf{w:V}{b:Nat}{c0 c1 a:ZE}{t:TypeId}(h:w.heap[b]? =U (ZC #[c0,c1,a] t)):
  w.cell? ⟨b,0,O⟩=U c0/\w.cell? ⟨b,1,O⟩=U c1/\w.cell? ⟨b,2,O⟩=U a/\∀o,w.frozen? ⟨b,o,O⟩=false:=by
 simp[World.cell?,World.frozen?,h]
def St.close(d s:Int)(st:St):Int × St:=if st=.expired/\d<=s then (s,.stopped) else (s,st)
def St.next(d s:Int)(st:St)(l:List ByteArray):Int × St:=match st with
 |.stopped=>(s,.stopped)
 |.expired=>St.close d (s+1) .expired
 |_=>St.close d s (if B3 l St.expired.str then .expired else if B3 l St.failed.str then .failed else .ok)
theorem qY(d:Int)(w:V)(h0:0<=d)(h1:d<=20):
  ZH ZI 117 #[I J d] w fun e w'=>e=ZD (.tuple #[ZA (U ⟨w.heap.size,0,O⟩),.nilIface])/\De w' w.heap.size d 0 .ok/\Below w.heap.size w w':=by
 go_enter func117,ntmps117;go_wp2_with fail;all_goals first|omega|skip
 all_goals
  refine bodyPost_ret (results_tmp2 rfl _ _ _) rfl ?_;exact⟨rfl,Ab _ _,(R1 _ _).alloc (Y2 _) _⟩
theorem De.since{w:V}{t:Nat}{d s:Int}{st:St}(h:De w t d s st)(a:Int):De (w.setCell ⟨t,1,O⟩ (I J a)) t d a st:=by
 unfold De at h ⊢;rw[Ah _ h];rfl
theorem De.status{w:V}{t:Nat}{d s:Int}{st:St}(h:De w t d s st)(st':St):De (w.setCell ⟨t,2,O⟩ (ZB st'.str)) t d s st':=by
 unfold De at h ⊢;rw[Ah _ h];rfl
theorem G7{w:V}{t:Nat}{d s:Int}{st:St}(q:Nat)(h:De w t d s st):De (w.drewN q) t d s st:=Kb q h
theorem Ev(S:Nat->Prop)(w:V)(q:Nat):Ac S w (w.drewN q):=(Al (Ag q (R1 w.heap.size w))).mono (fun _ _ h=>h.elim)
theorem U6(t:Nat)(d s:Int)(v:ZE)(w:V)(h:De w t d s .stopped):
  ZH ZI 154 #[ZA (U ⟨t,0,O⟩),v] w fun e w'=>e=ZD (ZB St.stopped.str)/\De w' t d s .stopped/\Ac (· =t) w w':=by
 have H:=G h;obtain⟨c0,c1,a,f⟩:=Bf h;unfold St.str at a;clear h;go_enter func154,ntmps154;go_wp2_with fail;go_quiet (fail);go_wp2_with fail;go_ret;exact⟨rfl,G7 _ H.out,Ev _ _ _⟩
theorem U7(t:Nat)(d s:Int)(v:ZE)(w:V)(h:De w t d s .expired)(h0:0<=s)(h1:s<=1000):
  ZH ZI 154 #[ZA (U ⟨t,0,O⟩),v] w fun e w'=>e=ZD (ZB (St.close d (s+1) .expired).2.str)/\De w' t d (s+1) (St.close d (s+1) .expired).2/\Ac (· =t) w w':=by
 have H:=G h;obtain⟨c0,c1,o,C⟩:=Bf h;unfold St.str at o;clear h;have a:=G (H.since (s+1));have f:=G (Af w t 1 (I J (s+1)));go_enter func154,ntmps154;by_cases n:d<=s+1
 ·have i:(St.close d (s+1) .expired).2=.stopped:=by simp[St.close,n]
  rw[i];go_wp2_with fail;generalize World.setCell _ _ _=w1 at a f ⊢;obtain⟨p,q,l,u⟩:=Bf a.out;simp only[St.str]at l;go_quiet (fail);have h2:=G7 nq a.out;have g:=Ac.trans f (Ev (· =t) w1 nq);generalize World.drewN _ _=w2 at h2 g ⊢;have h3:=G (h2.status .stopped);have j:=G (g.trans (Af w2 t 2 (ZB St.stopped.str)));obtain⟨y,A,m,B⟩:=Bf h2;clear h2 g;simp only[St.str]at m;go_wp2_with fail;go_ret;exact⟨rfl,h3.out,j.out⟩
 ·have i:(St.close d (s+1) .expired).2=.expired:=by simp[St.close,n]
  rw[i];go_wp2_with fail;generalize World.setCell _ _ _=w1 at a f ⊢;obtain⟨p,q,l,u⟩:=Bf a.out;simp only[St.str]at l;go_quiet (fail);have h2:=G7 nq a.out;have g:=Ac.trans f (Ev (· =t) w1 nq);generalize World.drewN _ _=w2 at h2 g ⊢;obtain⟨y,A,m,B⟩:=Bf h2;have h3:=G h2;have j:=G g;clear h2 g;simp only[St.str]at m;go_wp2_with fail;go_ret;exact⟨rfl,h3.out,j.out⟩
theorem qZ(t:Nat)(d s:Int)(st:St)(w:V)(h:De w t d s st):
  ZH ZI 155 #[ZA (U ⟨t,0,O⟩)] w fun e w'=>e=ZD (.bool (decide (st≠.stopped)))/\w=w':=by
 obtain⟨c0,c1,a,f⟩:=Bf h;clear h;go_enter func155,ntmps155;cases st;all_goals
  simp only[St.str]at a;go_wp2_with fail;go_ret;exact⟨rfl,rfl⟩
theorem Sa(R:Nat->Prop)(t:Nat)(d s:Int)(st:St)(l:List ByteArray)(v:ZE)(w:V)(h:De w t d s st)(f:st=.ok\/st=.failed)(q:Av R w v 1 (Aj l) l.length):
  ZH ZI 154 #[ZA (U ⟨t,0,O⟩),v] w fun e w'=>e=ZD (ZB (St.next d s st l).2.str)/\De w' t d s (St.next d s st l).2/\Ac (· =t) w w':=by
 obtain⟨Z,cap,rfl⟩:=q.val;have H:=G h;have B:=G q;obtain⟨c0,c1,T,cf⟩:=Bf h;clear h q;have i:=G (H.status .expired);have n:=G (H.status .failed);have o:=G (H.status .ok);have p:=G (Af w t 2 (ZB St.expired.str));have y:=G (Af w t 2 (ZB St.failed.str));have A:=G (Af w t 2 (ZB St.ok.str));have D:B3 l St.expired.str=true->(St.next d s st l).2=(St.close d s .expired).2:=by rcases f with rfl|rfl<;>intro h<;>simp[St.next,h]
 have E:B3 l St.expired.str=false->B3 l St.failed.str=true->(St.next d s st l).2=.failed:=by rcases f with rfl|rfl<;>intro h h2<;>simp[St.next,h,h2,St.close]
 have K:B3 l St.expired.str=false->B3 l St.failed.str=false->(St.next d s st l).2=.ok:=by rcases f with rfl|rfl<;>intro h h2<;>simp[St.next,h,h2,St.close]
 have P:=G D;have Q:=G E;have S:=G K;clear D E K;go_enter func154,ntmps154;rcases f with rfl|rfl;all_goals
  simp only[St.str]at T;go_wp2_with fail;refine(Lf R l _ _ w B.out).mono ?_;rintro e w' ⟨rfl,rfl⟩;cases h1:B3 l ⟨#[101,120,112,105,114,101,100]⟩
  ·go_wp2_with fail;refine(Lf R l _ _ w B.out).mono ?_;rintro e w' ⟨rfl,rfl⟩;cases h2:B3 l ⟨#[102,97,105,108,101,100]⟩
   ·have a:=G (S h1 h2);go_wp2_with fail;simp only[St.str]at o A;generalize World.setCell _ _ _=w1 at o A ⊢;obtain⟨L,M,m,N⟩:=Bf (show De w1 t d s .ok from o.out);simp only[St.str]at m;go_quiet (fail);go_wp2_with fail;go_ret;exact⟨by rw[a.out];rfl,by rw[a.out];exact G7 nq o.out,Ac.trans A (Ev (· =t) w1 nq)⟩
   ·have a:=G (Q h1 h2);go_wp2_with fail;simp only[St.str]at n y;generalize World.setCell _ _ _=w1 at n y ⊢;obtain⟨L,M,m,N⟩:=Bf (show De w1 t d s .failed from n.out);simp only[St.str]at m;go_quiet (fail);go_wp2_with fail;go_ret;exact⟨by rw[a.out];rfl,by rw[a.out];exact G7 nq n.out,Ac.trans y (Ev (· =t) w1 nq)⟩
  ·have g:=G (P h1);go_wp2_with fail;simp only[St.str]at i p;generalize World.setCell _ _ _=w1 at i p ⊢;obtain⟨L,M,m,N⟩:=Bf (show De w1 t d s .expired from i.out);simp only[St.str]at m;by_cases C:d<=s
   ·have j:(St.close d s .expired).2=.stopped:=by simp[St.close,C]
    have a:=G (g.trans j);clear j;go_quiet (fail);have h2:=G7 (st:=.expired) nq i.out;have u:=Ac.trans p (Ev (· =t) w1 nq);generalize World.drewN _ _=w2 at h2 u ⊢;have h3:=G (h2.status .stopped);have X:=G (u.trans (Af w2 t 2 (ZB St.stopped.str)));obtain⟨y0,y1,Y,yf⟩:=Bf h2;clear h2 u;simp only[St.str]at Y;go_wp2_with fail;go_ret;exact⟨by rw[a.out];rfl,by rw[a.out];exact h3.out,X.out⟩
   ·have j:(St.close d s .expired).2=.expired:=by simp[St.close,C]
    have a:=G (g.trans j);clear j;go_quiet (fail);go_wp2_with fail;go_ret;exact⟨by rw[a.out];rfl,by rw[a.out];exact G7 nq i.out,Ac.trans p (Ev (· =t) w1 nq)⟩
theorem St.close_fst(d s:Int)(st:St):(St.close d s st).1=s:=by unfold St.close;split<;>rfl
theorem rA(R:Nat->Prop)(t:Nat)(d s:Int)(st:St)(l:List ByteArray)(v:ZE)(w:V)(h:De w t d s st)(h0:0<=s)(h1:s<=1000)(f:Av R w v 1 (Aj l) l.length):
  ZH ZI 154 #[ZA (U ⟨t,0,O⟩),v] w fun e w'=>e=ZD (ZB (St.next d s st l).2.str)/\De w' t d (St.next d s st l).1 (St.next d s st l).2/\Ac (· =t) w w':=by
 cases a:st
 ·subst a;have:=Sa R t d s .ok l v w h (.inl rfl) f;have e:(St.next d s .ok l).1=s:=St.close_fst _ _ _;rw[e];exact this
 ·subst a;have:=Sa R t d s .failed l v w h (.inr rfl) f;have e:(St.next d s .failed l).1=s:=St.close_fst _ _ _;rw[e];exact this
 ·subst a;have:=U7 t d s v w h h0 h1;have e:(St.next d s .expired l).1=s+1:=St.close_fst _ _ _;rw[e];exact this
 ·subst a;exact U6 t d s v w h
theorem S8(R:Nat->Prop)(l:List ByteArray)(v:ZE)(x:ByteArray)(w:V)(h:Av R w v 1 (Aj l) l.length):
  ZH ZI 81 #[v,ZB x] w fun e w'=>e=ZD (I J (G9 l x))/\w=w':=by
 obtain⟨y,A,cap,rfl,h1,h2,h3,t⟩:=h;have i:Av R w (.slice A l.length cap) 1 (Aj l) l.length:=⟨y,_,_,rfl,h1,h2,h3,t⟩
 have D:l.length<=9223372036854775807:=by unfold maxLen at h2;omega
 have H:=G i;clear y h1 h2 h3 t i;go_enter func81,ntmps81;go_wp2_with fail;go_loop [5] (fun s=>∃k:Nat,k<=l.length/\s=I J k/\Hid (∀j (f:j<l.length),j<k->l[j].toList≠x.toList)) (fun s=>l.length-(intOf s).toNat);case atStart=>exact⟨0,In _,rfl,fun j f h=>by omega⟩
 case round=>
  obtain⟨k,C,rfl,a⟩:=hrel;by_cases g:k<l.length
  ·obtain⟨b,off,rfl,B,_,u⟩:=E8 H (by omega);have q:=u k g;clear u;by_cases m:x.toList=l[k].toList
   ·have p:(l[k].toList==x.toList)=true:=by simp[m]
    have d:=Ss g m.symm a.out;have n:=G d;clear m d;go_wp2_with fail;go_ret;exact⟨A6 n.symm,rfl⟩
   ·have p:(l[k].toList==x.toList)=false:=by simp;exact fun h=>m h.symm
    go_wp2_with fail;go_round;case rel=>
     refine⟨k+1,by omega,by go_num,fun j f h=>?_⟩;by_cases o:j=k
     ·subst o;exact fun h=>m h.symm
     ·exact a j f (by omega)
    case measure=>simp[intOf];omega
  ·have d:=Wb (l:=l) (x:=x) (fun j f=>a j f (by omega));have n:=G d;clear d;go_wp2_with fail;go_ret;exact⟨A6 n.symm,rfl⟩
structure Bm where
 point:Int
 tick:Int
 cycle:Int
def Dn(m:Bm):List ZE:=[I J m.point,I J m.tick,I J m.cycle]
theorem Ai1(x:Bm):∀u∈Dn x,u.oneCell'=true:=by
 intro u a;simp[Dn]at a;rcases a with rfl|rfl|rfl<;>rfl
theorem Pj{R:Nat->Prop}{w:V}{ao:Option Addr}{n cap:Nat}{l:List Bm}(h:Av R w (.slice ao n cap) 3 (l.flatMap Dn) l.length)(h0:0<l.length):
  ∃b off,ao=U ⟨b,off,O⟩/\R b/\b<w.heap.size/\∀k (hk:k<l.length),w.cell? ⟨b,off+k*3,O⟩=U (I J l[k].point)/\w.cell? ⟨b,off+k*3+1,O⟩=U (I J l[k].tick)/\w.cell? ⟨b,off+k*3+2,O⟩=U (I J l[k].cycle):=by
 obtain⟨b,off,e,d,f,a⟩:=h.elem (fun _=>rfl) (by decide) h0;exact⟨b,off,e,d,f,fun k hk=>⟨a k hk 0 _ rfl,a k hk 1 _ rfl,a k hk 2 _ rfl⟩⟩
def Fh(p:Int):List Bm->Option Int
 |[]=>O
 |m::l=>match Fh p l with
  |some t=>U t
  |none=>if m.point=p then U m.tick else O
theorem gS(p:Int)(l:List Bm)(m:Bm):Fh p (l++ [m])=if m.point=p then U m.tick else Fh p l:=by
 induction l with
 |nil=>simp[Fh]
 |cons x l ih=>
  simp only[Zyl,Fh,ih];by_cases h:m.point=p<;>simp[h]
theorem Sc(p:Int)(l:List Bm)(h:∀m∈l,m.point≠p):Fh p l=O:=by
 induction l with
 |nil=>rfl
 |cons x l ih=>
  simp only[Fh,ih (fun m a=>h m (by simp[a]))];rw[if_neg (h x (by simp))]
theorem sJ(p:Int)(a b:List Bm)(m:Bm)(e:m.point=p)(d:∀x∈b,x.point≠p):Fh p (a++m::b)=U m.tick:=by
 induction a with
 |nil=>simp only[Zyp,Fh,Sc p b d];rw[if_pos e]
 |cons x a ih=>simp only[Zyl,Fh,ih]
def Akj(g:Ix)(last:Option Int)(tick:Int):Bool:=match last with
 |none=>true
 |some s=>decide (tick-s<g.mn)||decide (g.mx<tick-s)
def Lj(g:Ix)(ahead:List Bm)(m:Bm)(c:Int):Bool:=decide (m.cycle=c)&&decide (m.point=g.dst)&&Akj g (Fh g.fr ahead) m.tick
def En(g:Ix)(l:List Bm)(c:Int)(n:Nat):Bool:=(List.range n).any fun i=>match l[i]? with|some m=>Lj g (l.take i) m c|none=>false
theorem Uk(g:Ix)(l:List Bm)(c:Int)(n:Nat)(a:n<l.length):En g l c (n+1)=(En g l c n||Lj g (l.take n) l[n] c):=by
 unfold En;rw[Zz4,List.any_append];simp[a]
theorem Pw(g:Ix)(l:List Bm)(c:Int)(n m:Nat)(h:En g l c n=true)(d:n<=m):En g l c m=true:=by
 unfold En at h ⊢;rw[Zy5]at h ⊢;obtain⟨i,hi,a⟩:=h;exact⟨i,by rw[List.mem_range]at hi ⊢;omega,a⟩
theorem sZ(g:Ix)(l:List Bm)(m:Bm)(c:Int):En g (l++ [m]) c (l++ [m]).length=(En g l c l.length||Lj g l m c):=by
 have e:(l++ [m]).length=l.length+1:=by simp
 rw[e,Uk _ _ _ _ (by omega)];have h1:(l++ [m]).take l.length=l:=by simp
 have h2:(l++ [m])[l.length]'(by omega)=m:=by simp
 rw[h1,h2];congr 1;unfold En;rw[Bool.eq_iff_iff,Zy5,Zy5];constructor<;>rintro⟨i,hi,d⟩<;>refine⟨i,hi,?_⟩<;>have a:=List.mem_range.1 hi
 ·rw[Zz9 a,Zym (by omega)]at d;exact d
 ·rw[Zz9 a,Zym (by omega)];exact d
theorem gW(g:Ix)(l:List Bm)(c:Int)(h:∀m∈l,m.cycle≠c):En g l c l.length=false:=by
 unfold En;rw[Zy1];intro i hi;have a:=List.mem_range.1 hi;rw[R4 a];simp[Lj,h l[i] (M2 _)]
def Ac5(g:Ix)(l:List Bm):Iy:=match Fh g.fr l with
 |none=>gs0 g
 |some t=>⟨g,t,true⟩
theorem Ag2(g:Ix)(l:List Bm)(m:Bm):Ac5 g (l++ [m])=It (Ac5 g l) m.point m.tick:=by
 unfold Ac5;rw[gS];unfold It;cases h:Fh g.fr l<;>by_cases a:m.point=g.fr<;>simp[a,gs0]
theorem Aj6(g:Ix)(l:List Bm)(m:Bm)(c:Int)(a:m.cycle=c):Jn (Ac5 g l) m.point m.tick=Lj g l m c:=by
 unfold Ac5 Lj Jn Akj;rw[On a];cases h:Fh g.fr l<;>simp[gs0]<;>first|rfl|congr
def Rz(l:List Bm):Prop:=∀m∈l,0<=m.tick/\m.tick<=1099511627776
theorem Aau{l:List Bm}{i k:Nat}(a:k<i)(hi:i<=l.length):l.take i=l.take k++l[k]::(l.take i).drop (k+1):=by
 have h1:(l.take i).length=i:=by simp;omega
 have h2:=Zxz k (l.take i);rw[List.take_take,Nat.min_eq_left (by omega),Zy3 (by omega)]at h2;have h3:(l.take i)[k]'(by omega)=l[k]:=by simp
 rw[h3]at h2;exact h2.symm
theorem gL{l:List Bm}{i k:Nat}{P:Bm->Prop}(h:∀j (hj:j<l.length),k<=j->j<i->P l[j]):∀m∈(l.take i).drop k,P m:=by
 intro m a;obtain⟨j,hj,rfl⟩:=List.mem_iff_getElem.1 a;simp at hj;have:=h (k+j) (by omega) (by omega) (by omega);simpa using this
theorem Ac9(R:Nat->Prop)(g:Ix)(l:List Bm)(c:Int)(v:ZE)(w:V)(h:Av R w v 3 (l.flatMap Dn) l.length)(K:∀b,R b->b<w.heap.size)(hl:l.length<=200)(Q:Rz l):
  ZH ZI 254 #[.agg #[I J g.fr,I J g.dst,I J g.mn,I J g.mx],v,I J c] w fun e w'=>e=ZD (.bool (En g l c l.length))/\Below w.heap.size w w':=by
 obtain⟨ma,mc,rfl⟩:=h.val;have H:=G h;clear h;go_enter func254,ntmps254;go_wp2_with fail;go_loopw [7] (fun s wr=>∃i:Nat,i<=l.length/\s=I J i/\Below w.heap.size w wr/\Hid (wr.heap[w.heap.size]? =U (ZC #[I J g.fr,I J g.dst,I J g.mn,I J g.mx] 126))/\Hid (En g l c i=false)) (fun s _=>l.length-(intOf s).toNat);case atStart=>exact⟨0,In _,rfl,(R1 _ _).alloc (Y2 _) _,Ab _ _,rfl⟩
 case round=>
  obtain⟨i,hi,rfl,y,M,hg⟩:=hrel;by_cases C:i<l.length
  ·obtain⟨n,a,rfl,f,_,hc⟩:=Pj H (by omega);obtain⟨T,X,Y⟩:=hc i C;rw[<-y.cell (p:=⟨n,a+i*3,O⟩) (K n f)]at T;rw[<-y.cell (p:=⟨n,a+i*3+1,O⟩) (K n f)]at X;rw[<-y.cell (p:=⟨n,a+i*3+2,O⟩) (K n f)]at Y;have HC:=G hc;clear hc;obtain⟨x0,x1,x2,x3⟩:=Ay M.out;have D:=Uk g l c i C;rw[hg.out,Bool.false_or]at D;have u:=G D;clear D;go_upto_region 4 with fail;go_cut [32] (fun s Z=>s=.bool (!(decide (l[i].cycle=c)&&decide (l[i].point=g.dst)))/\∃q,wr.drewN q=Z);case first=>
    by_cases h1:l[i].cycle=c
    ·have aa:(l[i].cycle != c)=false:=by simp[h1]
     have H1:=G h1;clear h1;by_cases h2:l[i].point=g.dst
     ·have ab:(l[i].point != g.dst)=false:=by simp[h2]
      have H2:=G h2;clear h2;go_quiet (fail);go_wp2_with fail;go_meet;exact⟨Bs (by rw[On H1.out,On H2.out];rfl),_,rfl⟩
     ·have ab:(l[i].point != g.dst)=true:=by simp[h2]
      go_quiet (fail);go_wp2_with fail;go_meet;exact⟨Bs (by rw[On H1.out,N1 h2];rfl),_,rfl⟩
    ·have aa:(l[i].cycle != c)=true:=by simp[h1]
     go_quiet (fail);go_wp2_with fail;go_meet;exact⟨Bs (by rw[N1 h1];rfl),_,rfl⟩
   case rest=>
   obtain⟨rfl,q,rfl⟩:=hcut;clear T X Y x0 x1 x2 x3;replace y:=Ag q y;replace M:=G (Kb q M.out);generalize wr.drewN q=w2 at y M ⊢;cases L:(decide (l[i].cycle=c)&&decide (l[i].point=g.dst))
   ·have t:Lj g (l.take i) l[i] c=false:=by rw[Lj,L];rfl
    rw[t]at u;have HQ:=G L;clear L t;go_wp2_with fail;go_roundw;case rel=>exact⟨i+1,by omega,by go_num,y,M,u⟩
    case measure=>simp[intOf];omega
   ·have t:Lj g (l.take i) l[i] c=Akj g (Fh g.fr (l.take i)) l[i].tick:=by rw[Lj,L];rfl
    rw[t]at u;have HQ:=G L;clear L t;go_wp2_with fail;obtain⟨wo,rfl⟩:∃wo:V,wo=w2:=⟨_,rfl⟩
    go_loopw [8] (fun s Z=>∃k:Nat,k<=i/\s=I J ((k:Int)-1)/\Below w.heap.size w Z/\Hid (Z.heap[w.heap.size]? =U (ZC #[I J g.fr,I J g.dst,I J g.mn,I J g.mx] 126))/\Hid (∀j (B:j<l.length),k<=j->j<i->l[j].point≠g.fr)) (fun s _=>((intOf s)+1).toNat);case atStart=>exact⟨i,Y2 _,rfl,y,M,fun j B h1 h2=>by omega⟩
    case round=>
     obtain⟨k,hk,rfl,d,E,o⟩:=hrel;obtain⟨x0,x1,x2,x3⟩:=Ay E.out;cases k with
     |zero=>
      rw[show(((0:Nat):Int)-1)= -1 from rfl];have P:Akj g (Fh g.fr (l.take i)) l[i].tick=true:=by
       rw[Sc]
       ·rfl
       ·intro m hm;obtain⟨j,B,rfl⟩:=List.mem_iff_getElem.1 hm;simp at B;have:=o j (by omega) (by omega) (by omega);simpa using this
      have A:En g l c l.length=true:=Pw _ _ _ _ _ (u.trans P) (by omega);have N:=G A;clear P A;go_wp2_with fail;go_quiet (fail);go_wp2_with fail;go_ret;exact⟨Am N.symm,Ag _ d⟩
     |succ m=>
      rw[show(((m+1:Nat):Int)-1)=(m:Int)from by omega];have af:m<l.length:=by omega
      obtain⟨T,X,Y⟩:=HC m af;obtain⟨p0,p1,p2⟩:=HC i C;rw[<-d.cell (p:=⟨n,a+m*3,O⟩) (K n f)]at T;rw[<-d.cell (p:=⟨n,a+m*3+1,O⟩) (K n f)]at X;rw[<-d.cell (p:=⟨n,a+i*3+1,O⟩) (K n f)]at p1;clear Y p0 p2;by_cases S:l[m].point=g.fr
      ·have ag:(l[m].point != g.fr)=false:=by simp[S]
       have HP:=G S;clear S;have P:Akj g (Fh g.fr (l.take i)) l[i].tick=(decide (l[i].tick-l[m].tick<g.mn)||decide (g.mx<l[i].tick-l[m].tick)):=by
        rw[Aau (k:=m) (by omega) hi,sJ _ _ _ _ HP.out]
        ·rfl
        ·exact gL (fun j B h1 h2=>o j B h1 h2)
       rw[P]at u;have t0:=Q l[m] (M2 _);have t1:=Q l[i] (M2 _);clear P;go_wp2_with fail;go_quiet (fail);go_wp2_with fail;go_quiet (fail);by_cases c1:l[i].tick-l[m].tick<g.mn
       ·have A:En g l c l.length=true:=Pw _ _ _ _ _ (by rw[u.out,On c1];rfl) (show i+1<=l.length by omega);have N:=G A;clear A;go_wp2_with fail;go_ret;exact⟨Am N.symm,Ag _ d⟩
       ·by_cases c2:g.mx<l[i].tick-l[m].tick
        ·have A:En g l c l.length=true:=Pw _ _ _ _ _ (by rw[u.out,On c2];simp) (show i+1<=l.length by omega);have N:=G A;clear A;go_wp2_with fail;go_ret;exact⟨Am N.symm,Ag _ d⟩
        ·rw[N1 c1,N1 c2]at u;go_wp2_with fail;go_roundw;case rel=>exact⟨i+1,by omega,by go_num,Ag _ d,E,u⟩
         case measure=>simp[intOf];omega
      ·have ag:(l[m].point != g.fr)=true:=by simp[S]
       go_wp2_with fail;go_quiet (fail);go_wp2_with fail;go_roundw;case rel=>
        refine⟨m,by omega,by go_num,Ag _ d,E,?_⟩;intro j B h1 h2;by_cases ae:j=m
        ·subst ae;exact S
        ·exact o j B (by omega) h2
       case measure=>simp[intOf]
  ·have ad:i=l.length:=by omega
   subst ad;go_wp2_with fail;go_ret;exact⟨Am hg.symm,y⟩
