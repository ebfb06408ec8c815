import Derived.Test.YtikehilbmldadaaGreatDoorP26
import Derived.Test.YtikehilbmldadaaGreatDoorP44
import Derived.Lib.SliceRun
set_option maxHeartbeats 4000000
set_option maxRecDepth 100000
set_option linter.unusedVariables false
namespace Go.Proofs.YtikehilbmldadaaGreatDoor
open Proofs.Tryz YtikehilbmldadaaGreatDoor.Tryz RowKit
open Go renaming World->V,Value->ZE,RowKit.Below->ZF,Calls->ZH,Value.int->I,IntKind.i64->J,Value.slice->F,Value.pointer->ZA,Value.string->ZB,Obj.cells->ZC,Ending.returned->ZD,Proofs.Tryz.prog->ZI
open Option renaming some->U,none->O
section
variable {B:Nat} {sa:Nat->Addr} {w0:V} {kb c:Nat} {txt:ByteArray} {x:KpX} {M:KpM} {o:Nat->Nat} {w:V} {T:Nat}
theorem Bq.stat(h:Bq B sa w0 kb c txt x M o w){i l:Nat}{y:A2}(h1:x.ls[i]? =U l)(h2:x.X[i]? =U y):
  ZH ZI 153 #[ZA (U ⟨l,0,O⟩)] w fun e w'=>e=ZD (ZB (Cs (B9 M i)))/\w=w':=by
 obtain⟨m,p,t,n,d⟩:=h.loc i l y h1 h2;cases j:B9 M i with
 |none=>
  rw[j]at d;exact Od l y.E y.p y.g y.e y.f y.l w d
 |some a=>
  rw[j]at d;exact Qd l p t y.E y.p y.g y.e y.f y.l a w d
theorem xL(h:Bq B sa w0 kb c txt x M o w)(n:Nat)(d:n<M.A.length):
  ZH ZI 129 #[ZA (U ⟨kb,0,O⟩),I J n] w fun e w'=>e=ZD (.tuple #[ZB (Cs (B9 M n)),.nilIface])/\w=w':=by
 obtain⟨k0,k1,u,v,C,D,E,H,K,L,a,N⟩:=Bv h.box;obtain⟨R,cap,i,q,s,g⟩:=h.row;rw[i]at K;obtain⟨b,off,l,y,rfl,S,j,m,Q⟩:=g n d;have p:=G (h.stat j m);have t:(n:Int)<M.A.length:=by omega
 clear h i d j m Q g k0 k1 u v C D E H L a N;go_enter func129,ntmps129;go_wp2_with fail;refine p.mono ?_;rintro e w1 ⟨rfl,rfl⟩;go_wp2_with fail;go_ret2;exact⟨rfl,rfl⟩
theorem sL(h:Bq B sa w0 kb c txt x M o w)(n:Nat)(j:¬n<M.A.length):
  ZH ZI 129 #[ZA (U ⟨kb,0,O⟩),I J n] w fun e w'=>e=ZD (.tuple #[ZB ByteArray.empty,errv sa 5])/\ZF w.heap.size w w':=by
 obtain⟨k0,k1,m,p,q,s,t,u,v,y,a,C⟩:=Bv h.box;obtain⟨_,_,_,_,E,_⟩:=h.b.se.all;obtain⟨D,cap,d,g,i,_⟩:=h.row;rw[d]at v;have l:(M.A.length:Int)<=n:=by omega
 clear h d j k0 k1 m p q s t u y a C;go_enter func129,ntmps129;go_wp2_with fail;go_quiet (fail);go_wp2_with fail;go_ret2;exact⟨rfl,Ag _ (R1 _ _)⟩
theorem gE(h:Bq B sa w0 kb c txt x M o w)(D:Bn M T)(n:Nat)(E:T+2*n<=400000):
  ZH ZI 123 #[ZA (U ⟨kb,0,O⟩),I J n] w (Ft B sa w0 kb c txt (Bi M n) o w):=by
 unfold Ft;have H:=G h;have HOk:=G (fun k (l:k<=n)=>My D k (by omega));have A:=G E;clear h D E;go_enter func123,ntmps123;go_wp2_with fail;go_loopw [7] (fun s wr=>∃(i:Nat) (v:KpX) (m:Nat->Nat) (g:KpM),i<=n/\s=I J i/\Hid (Bi M i=(0,g))/\Hid (Bq B sa w0 kb c txt v g m wr)/\Hid (Fr o m w wr)) (fun s _=>n-(intOf s).toNat);case atStart=>exact⟨0,x,o,M,In _,rfl,rfl,H,G (Fr.refl _ _)⟩
 case round=>
  obtain⟨i,v,m,g,hi,rfl,t,l,u⟩:=hrel;by_cases S:i<n
  ·have d:=HOk i hi;rw[t.out]at d;have a:=G (Acj l d (by have:=A.out;omega));unfold Ft at a;have j:=G (sK t.out);obtain⟨r,L⟩:∃r,r=Hr g:=⟨_,rfl⟩
   rw[<-L]at a j;obtain⟨re,Q⟩:=r;have K:(i:Int)<=400000:=by have:=A.out;omega
   clear L d;go_wp2_with fail;refine a.mono ?_;rintro e w1 ⟨rfl,R,N,z1,z2⟩;have C:=G z1;have y:=G (u.trans z2);clear z1 z2 a l u;cases re with
   |zero=>
    rw[Fe];go_wp2_with fail;go_roundw;case rel=>exact⟨i+1,R,N,Q,by omega,by go_num,j,C,y⟩
    case measure=>simp[intOf];omega
   |succ q=>
    rw[Gf];have p:=G (show Bi M n=(q+1,Q)from by
     have h1:=Sd (M:=M) (k:=i+1) (by rw[j.out];exact Zzp q) (n-(i+1));rw[show i+1+(n-(i+1))=n by omega,j.out]at h1;exact h1)
    go_wp2_with fail;go_ret;rw[p.out];exact⟨rfl,R,N,C.out,y.out⟩
  ·have p:=G (show Bi M n=(0,g)from by rw[show n=i by omega];exact t.out);go_wp2_with fail;go_ret;rw[p.out];exact⟨rfl,v,m,l.out,u.out⟩
theorem Ags(h:Bq B sa w0 kb c txt x M o w)(n:Int):
  ZH ZI 125 #[ZA (U ⟨c,0,O⟩),I J n] w (Ft B sa w0 kb c txt (kD M.m.off n,{ M with m:=Qn M.m n}) o w):=by
 refine(tQ B sa c x.rb _ x.cap M.m n w h.b.mem h.b.se).mono ?_;rintro e d ⟨rfl,h1,h2⟩;exact⟨rfl,x,o,h.cell' h2 h1,Fr.of h2 (fun b a=>by rw[a,h.b.oc];decide)⟩
end
def plC(kb c:Nat):Obj:=ZC #[ZA (U ⟨kb,0,O⟩),ZA (U ⟨c,0,O⟩)] 98
theorem G2{w:V}{pb kb c:Nat}(h:w.heap[pb]? =U (plC kb c)):w.cell? ⟨pb,0,O⟩=U (ZA (U ⟨kb,0,O⟩))/\w.cell? ⟨pb,1,O⟩=U (ZA (U ⟨c,0,O⟩)):=by
 unfold plC at h;simp[World.cell?,h]
section
variable {B:Nat} {sa:Nat->Addr} {w0:V} {kb c pb:Nat} {txt:ByteArray} {x:KpX} {M:KpM} {o:Nat->Nat} {w:V} {T:Nat}
def Gs(B:Nat)(sa:Nat->Addr)(w0:V)(kb c:Nat)(txt:ByteArray)(r:Nat × ByteArray × KpM)(o:Nat->Nat)(w:V)(e:Ending)(w':V):Prop:=
 e=ZD (.tuple #[ZB r.2.1,errv sa r.1])/\∃x' o',Bq B sa w0 kb c txt x' r.2.2 o' w'/\Fr o o' w w'
theorem Ft.from{W a:V}{r:Nat × KpM}{e:Ending}(j:ZF w.heap.size w W)(l:Ft B sa w0 kb c txt r o W e a):
  e=ZD (errv sa r.1)/\(∀b i v,w.cell? ⟨b,i,O⟩=U v->o b=0->a.cell? ⟨b,i,O⟩=U v)/\∃x' o',Bq B sa w0 kb c txt x' r.2 o' a/\Fr o o' w a:=by
 obtain⟨h1,x',o',h2,h3⟩:=l;have d:Fr o o' w a:=(Fr.below o j).trans h3;refine⟨h1,fun b i v g m=>?_,x',o',h2,d⟩;rw[d.kp.cell (p:=⟨b,i,O⟩) (R3 w ⟨b,i,O⟩ g) (by simp only[m];exact fun h=>h rfl)];exact g
theorem Oz{a:KpM}{w1 W:V}(h:∃x' o',Bq B sa w0 kb c txt x' a o' w1/\Fr o o' w w1)(b:ZF w1.heap.size w1 W):∃x' o',Bq B sa w0 kb c txt x' a o' W/\Fr o o' w W:=by
 obtain⟨x',o',h1,h2⟩:=h;exact⟨x',o',h1.below b,h2.trans (Fr.below o' b)⟩
theorem sM(h:Bq B sa w0 kb c txt x M o w)(n:Nat):
  ZH ZI 129 #[ZA (U ⟨kb,0,O⟩),I J n] w fun e w'=>e=ZD (.tuple #[ZB (Cr txt M 6 [n]).2.1,errv sa (Cr txt M 6 [n]).1])/\ZF w.heap.size w w':=by
 by_cases a:n<M.A.length
 ·have e:Cr txt M 6 [n]=(0,Cs (B9 M n),M):=by
   unfold Cr;simp only[Zya];rw[if_pos (by omega)];simp
  rw[e];exact(xL h n a).mono (fun e w' ⟨h1,h2⟩=>⟨h1,h2▸R1 _ _⟩)
 ·have e:Cr txt M 6 [n]=(5,ByteArray.empty,M):=by
   unfold Cr;simp only[Zya];rw[if_neg (by omega)]
  rw[e];exact sL h n a
theorem Anf(txt:ByteArray)(M:KpM)(n:Nat):(Cr txt M 6 [n]).2.2=M:=by
 unfold Cr;simp only;split<;>rfl
theorem Akx(h:Bq B sa w0 kb c txt x M o w)(q:Bn M T)(y:w.heap[pb]? =U (plC kb c))(u:o pb=0)(nb cap a:Nat)(j:w.cell? ⟨nb,0,O⟩=U (I J a))(l:o nb=0):
  ZH ZI 118 #[ZA (U ⟨pb,0,O⟩),F (U ⟨nb,0,O⟩) 1 cap] w (Gs B sa w0 kb c txt (Cr txt M 0 [a]) o w):=by
 obtain⟨A,H⟩:=G2 y;obtain⟨r,n⟩:∃r:Nat × KpM,r=Ig M (a:Int):=⟨_,rfl⟩
 have p:=G (fun W (s:ZF w.heap.size w W)=>(xQ (h.below s) q (a:Int)).mono (fun e d E=>Ft.from s E));have t:Cr txt M 0 [a]=(r.1,okS,r.2):=by rw[n];rfl
 rw[t];rw[<-n]at p;have C:=G (fun(d:V) (g:∀b i v,w.cell? ⟨b,i,O⟩=U v->o b=0->d.cell? ⟨b,i,O⟩=U v)=>(show d.cell? ⟨pb,0,O⟩=U (ZA (U ⟨kb,0,O⟩))/\d.cell? ⟨nb,0,O⟩=U (I J a)from⟨g pb 0 _ A u,g nb 0 _ j l⟩));obtain⟨re,K⟩:=r;unfold Gs;clear h q y u n t l;go_enter func118,ntmps118;go_wp2_with fail;go_region_held3 (fun d=>d.cell? ⟨pb,0,O⟩=U (ZA (U ⟨kb,0,O⟩))/\d.cell? ⟨nb,0,O⟩=U (I J a))
  (first|exact⟨A,j⟩|exact C _ m.out)
  (first|(go_at_call 20;refine(p _ ?_).mono ?_;(repeat(first|exact R1 _ _|refine H5 ?_));rintro e w1 ⟨rfl,g,z⟩;have m:=G g;have D:=G z;clear g z)|(go_at_call 119;refine(N0 _ _).mono ?_;rintro e L ⟨rfl,rfl⟩))
 all_goals
  go_wp2_with fail;go_ret2;exact⟨rfl,Oz D (by repeat(first|exact R1 _ _|refine H5 ?_))⟩
theorem Akw(h:Bq B sa w0 kb c txt x M o w)(q:Bn M T)(y:w.heap[pb]? =U (plC kb c))(u:o pb=0)(nb cap a:Nat)(j:w.cell? ⟨nb,0,O⟩=U (I J a))(l:o nb=0):
  ZH ZI 120 #[ZA (U ⟨pb,0,O⟩),F (U ⟨nb,0,O⟩) 1 cap] w (Gs B sa w0 kb c txt (Cr txt M 1 [a]) o w):=by
 obtain⟨A,H⟩:=G2 y;obtain⟨r,n⟩:∃r:Nat × KpM,r=Kk M (a:Int):=⟨_,rfl⟩
 have p:=G (fun W (s:ZF w.heap.size w W)=>(Acl (h.below s) q (a:Int)).mono (fun e d E=>Ft.from s E));have t:Cr txt M 1 [a]=(r.1,okS,r.2):=by rw[n];rfl
 rw[t];rw[<-n]at p;have C:=G (fun(d:V) (g:∀b i v,w.cell? ⟨b,i,O⟩=U v->o b=0->d.cell? ⟨b,i,O⟩=U v)=>(show d.cell? ⟨pb,0,O⟩=U (ZA (U ⟨kb,0,O⟩))/\d.cell? ⟨nb,0,O⟩=U (I J a)from⟨g pb 0 _ A u,g nb 0 _ j l⟩));obtain⟨re,K⟩:=r;unfold Gs;clear h q y u n t l;go_enter func120,ntmps120;go_wp2_with fail;go_region_held3 (fun d=>d.cell? ⟨pb,0,O⟩=U (ZA (U ⟨kb,0,O⟩))/\d.cell? ⟨nb,0,O⟩=U (I J a))
  (first|exact⟨A,j⟩|exact C _ m.out)
  (first|(go_at_call 21;refine(p _ ?_).mono ?_;(repeat(first|exact R1 _ _|refine H5 ?_));rintro e w1 ⟨rfl,g,z⟩;have m:=G g;have D:=G z;clear g z)|(go_at_call 119;refine(N0 _ _).mono ?_;rintro e L ⟨rfl,rfl⟩))
 all_goals
  go_wp2_with fail;go_ret2;exact⟨rfl,Oz D (by repeat(first|exact R1 _ _|refine H5 ?_))⟩
theorem Akv(h:Bq B sa w0 kb c txt x M o w)(s:Bn M T)(A:w.heap[pb]? =U (plC kb c))(y:o pb=0)(nb cap g n1:Nat)(l:w.cell? ⟨nb,0,O⟩=U (I J g))(m:w.cell? ⟨nb,1,O⟩=U (I J n1))(d:o nb=0):
  ZH ZI 121 #[ZA (U ⟨pb,0,O⟩),F (U ⟨nb,0,O⟩) 2 cap] w (Gs B sa w0 kb c txt (Cr txt M 2 [g,n1]) o w):=by
 obtain⟨C,K⟩:=G2 A;obtain⟨r,p⟩:∃r:Nat × KpM,r=Gm M (g:Int) (n1:Int):=⟨_,rfl⟩
 have q:=G (fun W (t:ZF w.heap.size w W)=>(sN (h.below t) s (g:Int) (n1:Int)).mono (fun e a H=>Ft.from t H));have u:Cr txt M 2 [g,n1]=(r.1,okS,r.2):=by rw[p];rfl
 rw[u];rw[<-p]at q;have D:=G (fun(a:V) (j:∀b i v,w.cell? ⟨b,i,O⟩=U v->o b=0->a.cell? ⟨b,i,O⟩=U v)=>(show a.cell? ⟨pb,0,O⟩=U (ZA (U ⟨kb,0,O⟩))/\a.cell? ⟨nb,0,O⟩=U (I J g)/\a.cell? ⟨nb,1,O⟩=U (I J n1)from⟨j pb 0 _ C y,j nb 0 _ l d,j nb 1 _ m d⟩));obtain⟨re,L⟩:=r;unfold Gs;clear h s A y p u d;go_enter func121,ntmps121;go_wp2_with fail;go_region_held3 (fun a=>a.cell? ⟨pb,0,O⟩=U (ZA (U ⟨kb,0,O⟩))/\a.cell? ⟨nb,0,O⟩=U (I J g)/\a.cell? ⟨nb,1,O⟩=U (I J n1))
  (first|exact⟨C,l,m⟩|exact D _ n.out)
  (first|(go_at_call 22;refine(q _ ?_).mono ?_;(repeat(first|exact R1 _ _|refine H5 ?_));rintro e w1 ⟨rfl,j,z⟩;have n:=G j;have E:=G z;clear j z)|(go_at_call 119;refine(N0 _ _).mono ?_;rintro e N ⟨rfl,rfl⟩))
 all_goals
  go_wp2_with fail;go_ret2;exact⟨rfl,Oz E (by repeat(first|exact R1 _ _|refine H5 ?_))⟩
theorem Aku(h:Bq B sa w0 kb c txt x M o w)(q:Bn M T)(A:w.heap[pb]? =U (plC kb c))(y:o pb=0)(nb cap a:Nat)(j:w.cell? ⟨nb,0,O⟩=U (I J a))(l:o nb=0)(s:T+2*a<=400000):
  ZH ZI 122 #[ZA (U ⟨pb,0,O⟩),F (U ⟨nb,0,O⟩) 1 cap] w (Gs B sa w0 kb c txt (Cr txt M 3 [a]) o w):=by
 obtain⟨C,K⟩:=G2 A;obtain⟨r,n⟩:∃r:Nat × KpM,r=Bi M a:=⟨_,rfl⟩
 have p:=G (fun W (t:ZF w.heap.size w W)=>(gE (h.below t) q a s).mono (fun e d H=>Ft.from t H));have u:Cr txt M 3 [a]=(r.1,okS,r.2):=by rw[n];rfl
 rw[u];rw[<-n]at p;have D:=G (fun(d:V) (g:∀b i v,w.cell? ⟨b,i,O⟩=U v->o b=0->d.cell? ⟨b,i,O⟩=U v)=>(show d.cell? ⟨pb,0,O⟩=U (ZA (U ⟨kb,0,O⟩))/\d.cell? ⟨nb,0,O⟩=U (I J a)from⟨g pb 0 _ C y,g nb 0 _ j l⟩));obtain⟨re,L⟩:=r;unfold Gs;clear h q A y n u l s;go_enter func122,ntmps122;go_wp2_with fail;go_region_held3 (fun d=>d.cell? ⟨pb,0,O⟩=U (ZA (U ⟨kb,0,O⟩))/\d.cell? ⟨nb,0,O⟩=U (I J a))
  (first|exact⟨C,j⟩|exact D _ m.out)
  (first|(go_at_call 123;refine(p _ ?_).mono ?_;(repeat(first|exact R1 _ _|refine H5 ?_));rintro e w1 ⟨rfl,g,z⟩;have m:=G g;have E:=G z;clear g z)|(go_at_call 119;refine(N0 _ _).mono ?_;rintro e N ⟨rfl,rfl⟩))
 all_goals
  go_wp2_with fail;go_ret2;exact⟨rfl,Oz E (by repeat(first|exact R1 _ _|refine H5 ?_))⟩
theorem Akt(h:Bq B sa w0 kb c txt x M o w)(E:Bn M T)(y:w.heap[pb]? =U (plC kb c))(u:o pb=0)(nb cap a:Nat)(j:w.cell? ⟨nb,0,O⟩=U (I J a))(l:o nb=0):
  ZH ZI 124 #[ZA (U ⟨pb,0,O⟩),F (U ⟨nb,0,O⟩) 1 cap] w (Gs B sa w0 kb c txt (Cr txt M 4 [a]) o w):=by
 obtain⟨K,A⟩:=G2 y;obtain⟨r,p⟩:∃r:Nat × KpM,r=((kD M.m.off (a:Int),{ M with m:=Qn M.m (a:Int)}):Nat × KpM):=⟨_,rfl⟩
 have q:=G (fun W (s:ZF w.heap.size w W)=>(Ags (h.below s) (a:Int)).mono (fun e d H=>Ft.from s H));have t:Cr txt M 4 [a]=(r.1,okS,r.2):=by rw[p];rfl
 rw[t];rw[<-p]at q;have C:=G (fun(d:V) (g:∀b i v,w.cell? ⟨b,i,O⟩=U v->o b=0->d.cell? ⟨b,i,O⟩=U v)=>(show d.cell? ⟨pb,1,O⟩=U (ZA (U ⟨c,0,O⟩))/\d.cell? ⟨nb,0,O⟩=U (I J a)from⟨g pb 1 _ A u,g nb 0 _ j l⟩));obtain⟨re,L⟩:=r;unfold Gs;clear h E y u p t l;go_enter func124,ntmps124;go_wp2_with fail;go_region_held3 (fun d=>d.cell? ⟨pb,1,O⟩=U (ZA (U ⟨c,0,O⟩))/\d.cell? ⟨nb,0,O⟩=U (I J a))
  (first|exact⟨A,j⟩|exact C _ n.out)
  (first|(go_at_call 125;refine(q _ ?_).mono ?_;(repeat(first|exact R1 _ _|refine H5 ?_));rintro e w1 ⟨rfl,g,z⟩;have n:=G g;have D:=G z;clear g z)|(go_at_call 119;refine(N0 _ _).mono ?_;rintro e N ⟨rfl,rfl⟩))
 all_goals
  go_wp2_with fail;go_ret2;exact⟨rfl,Oz D (by repeat(first|exact R1 _ _|refine H5 ?_))⟩
theorem Aks(h:Bq B sa w0 kb c txt x M o w)(g:Bn M T)(l:w.heap[pb]? =U (plC kb c))(q:o pb=0)(s:ZE):
  ZH ZI 126 #[ZA (U ⟨pb,0,O⟩),s] w (Gs B sa w0 kb c txt (Cr txt M 5 []) o w):=by
 obtain⟨t,u⟩:=G2 l;obtain⟨r,a⟩:∃r:Nat × KpM,r=Lx M:=⟨_,rfl⟩
 have d:=G (fun W (i:ZF w.heap.size w W)=>(Acm (h.below i) g).mono (fun e y p=>Ft.from i p));have j:Cr txt M 5 []=(r.1,okS,r.2):=by rw[a];rfl
 rw[j];rw[<-a]at d;obtain⟨re,v⟩:=r;unfold Gs;clear h g l q a j;go_enter func126,ntmps126;go_wp2_with fail;refine(d _ (R1 _ _)).mono ?_;rintro e w1 ⟨rfl,n,z⟩;have m:=G z;clear n z;go_wp2_with fail;refine(N0 _ _).mono ?_;rintro e A ⟨rfl,rfl⟩;go_wp2_with fail;go_ret2;exact⟨rfl,m.out⟩
theorem Akr(h:Bq B sa w0 kb c txt x M o w)(t:w.heap[pb]? =U (plC kb c))(nb cap d:Nat)(a:w.cell? ⟨nb,0,O⟩=U (I J d)):
  ZH ZI 128 #[ZA (U ⟨pb,0,O⟩),F (U ⟨nb,0,O⟩) 1 cap] w (Gs B sa w0 kb c txt (Cr txt M 6 [d]) o w):=by
 obtain⟨l,A⟩:=G2 t;have m:=G (fun W (j:ZF w.heap.size w W)=>(sM (h.below j) d).mono (fun e g s=>And.intro s.1 (j.trans (s.2.mono j.size))));have v:=G (fun(g:V) (hw:ZF w.heap.size w g)=>(show g.cell? ⟨pb,0,O⟩=U (ZA (U ⟨kb,0,O⟩))/\g.cell? ⟨nb,0,O⟩=U (I J d)from
  ⟨by rw[hw.cell (p:=⟨pb,0,O⟩) (R3 w ⟨pb,0,O⟩ l)];exact l,by rw[hw.cell (p:=⟨nb,0,O⟩) (R3 w ⟨nb,0,O⟩ a)];exact a⟩))
 have n:=G (Anf txt M d);have H:=G h;obtain⟨re,u⟩:∃r,r=Cr txt M 6 [d]:=⟨_,rfl⟩
 rw[<-u]at m n ⊢;obtain⟨re,rs,y⟩:=re;unfold Gs;clear h t u;go_enter func128,ntmps128;go_wp2_with fail;go_region_held3 (fun g=>g.cell? ⟨pb,0,O⟩=U (ZA (U ⟨kb,0,O⟩))/\g.cell? ⟨nb,0,O⟩=U (I J d))
  (first|exact⟨l,a⟩|exact v _ i.out)
  (first|(go_at_call 129;refine(m _ ?_).mono ?_;(repeat(first|exact R1 _ _|refine H5 ?_));rintro e w1 ⟨rfl,q⟩;have i:=G q;clear q))
 all_goals
  go_wp2_with fail;go_ret2;rw[show y=M from n.out];refine⟨rfl,x,o,H.below ?_,Fr.below o ?_⟩<;>(repeat(first|exact i.out|refine H5 ?_))
def C7(s:ByteArray)(w:V)(e:Ending)(w':V):Prop:=e=ZD (ZB s)/\ZF w.heap.size w w'
theorem Akq(h:Bq B sa w0 kb c txt x M o w)(m:Bn M T)(n:L9 B w)(p:w.heap[pb]? =U (plC kb c)):
  ZH ZI 131 #[ZA (U ⟨pb,0,O⟩)] w (C7 (Cr txt M 7 []).2.1 w):=by
 obtain⟨Q,R⟩:=G2 p;obtain⟨k0,k1,v,y,A,C,E,H,K,L,i,N⟩:=Bv h.box;have a:=m.dog;have h1:=a.l0;have h2:=a.ln;have h3:=a.n1;have t:=a.k0;have u:=a.k1;have j:=G (P4 x.d M.D w h.b.dog);have l:=G (M4 B M.D.now w n (by omega) (by omega));obtain⟨q,g⟩:∃q,q=M.D.now:=⟨_,rfl⟩
 show ZH _ _ _ _ (C7 (B6 (Lib.itoa M.D.now)) w)
 rw[<-g]at j l ⊢;unfold C7 B6;clear h m n p k1 v y A C E H K L i N a h1 h2 h3 t u g;go_enter func131,ntmps131;go_wp2_with fail;refine j.mono ?_;rintro e w1 ⟨rfl,rfl⟩;go_wp2_with fail;refine l.mono ?_;rintro e w1 ⟨rfl,s⟩;go_wp2_with fail;go_ret;exact⟨rfl,s⟩
theorem Akp(h:Bq B sa w0 kb c txt x M o w)(m:Bn M T)(n:L9 B w)(p:w.heap[pb]? =U (plC kb c)):
  ZH ZI 132 #[ZA (U ⟨pb,0,O⟩)] w (C7 (Cr txt M 8 []).2.1 w):=by
 obtain⟨Q,R⟩:=G2 p;obtain⟨k0,k1,v,y,A,C,E,H,K,L,i,N⟩:=Bv h.box;have a:=m.dog;have h1:=a.l0;have h2:=a.ln;have h3:=a.n1;have t:=a.k0;have u:=a.k1;have j:=G (tH x.d M.D w h.b.dog);have l:=G (M4 B M.D.kicks w n (by omega) (by omega));obtain⟨q,g⟩:∃q,q=M.D.kicks:=⟨_,rfl⟩
 show ZH _ _ _ _ (C7 (B6 (Lib.itoa M.D.kicks)) w)
 rw[<-g]at j l ⊢;unfold C7 B6;clear h m n p k1 v y A C E H K L i N a h1 h2 h3 t u g;go_enter func132,ntmps132;go_wp2_with fail;refine j.mono ?_;rintro e w1 ⟨rfl,rfl⟩;go_wp2_with fail;refine l.mono ?_;rintro e w1 ⟨rfl,s⟩;go_wp2_with fail;go_ret;exact⟨rfl,s⟩
theorem Ahr(h:Bq B sa w0 kb c txt x M o w)(d:w.heap[pb]? =U (plC kb c)):
  ZH ZI 133 #[ZA (U ⟨pb,0,O⟩)] w (C7 (Cr txt M 9 []).2.1 w):=by
 obtain⟨i,j⟩:=G2 d;have a:=G (xK h);show ZH _ _ _ _ (C7 (M.st.str) w)
 obtain⟨s,g⟩:∃s,s=M.st.str:=⟨_,rfl⟩
 rw[<-g]at a ⊢;unfold C7;clear h d g;go_enter func133,ntmps133;go_wp2_with fail;refine a.mono ?_;rintro e w1 ⟨rfl,rfl⟩;go_wp2_with fail;go_ret;exact⟨rfl,R1 _ _⟩
theorem Ahq(h:Bq B sa w0 kb c txt x M o w)(d:w.heap[pb]? =U (plC kb c)):
  ZH ZI 134 #[ZA (U ⟨pb,0,O⟩)] w (C7 (Cr txt M 10 []).2.1 w):=by
 obtain⟨i,j⟩:=G2 d;have a:=G (xM h);show ZH _ _ _ _ (C7 (Me M) w)
 obtain⟨s,g⟩:∃s,s=Me M:=⟨_,rfl⟩
 rw[<-g]at a ⊢;unfold C7;clear h d g;go_enter func134,ntmps134;go_wp2_with fail;refine a.mono ?_;rintro e w1 ⟨rfl,rfl⟩;go_wp2_with fail;go_ret;exact⟨rfl,R1 _ _⟩
end
theorem Bn.recs{M:KpM}{T:Nat}(h:Bn M T):∀r∈M.L,Zw r:=by
 obtain⟨D,d1,d2,d3⟩:=h.log;intro r a;rw[d3]at a;have e:r∈D:=List.mem_of_mem_drop a;obtain⟨j,d,rfl⟩:=List.mem_iff_getElem.1 e;exact(d1.seq j d).2.td
theorem Agj{L:List Ap}(h:L≠ []):Gd L∈L:=by
 unfold Gd;rw[Zxx h];exact List.getLast_mem h
section
variable {B:Nat} {sa:Nat->Addr} {w0:V} {kb c pb:Nat} {txt:ByteArray} {x:KpX} {M:KpM} {o:Nat->Nat} {w:V} {T:Nat}
theorem Bq.top(h:Bq B sa w0 kb c txt x M o w):B<=w.heap.size:=No h.b.bl h.b.bel.size
theorem Ahp(h:Bq B sa w0 kb c txt x M o w)(q:Bn M T)(v:L9 B w)(y:w.heap[pb]? =U (plC kb c)):
  ZH ZI 135 #[ZA (U ⟨pb,0,O⟩)] w (C7 (Cr txt M 11 []).2.1 w):=by
 obtain⟨K,N⟩:=G2 y;have d:=G (xP h q);show ZH _ _ _ _ (C7 (if M.L= [] then Em else B6 (C5 (Gd M.L))) w)
 have u:=G (fun(i:M.L≠ [])=>q.recs _ (Agj i));have n:=h.top;by_cases i:M.L= []
 ·rw[if_pos i];rw[show(!M.L.isEmpty)=false by rw[i];rfl]at d;obtain⟨z,p⟩:∃z,z=Gd M.L:=⟨_,rfl⟩
  rw[<-p]at d;unfold Aq at d;unfold C7;clear h q v y p i u;go_enter func135,ntmps135;go_wp2_with fail;refine d.mono ?_;rintro e w1 ⟨rfl,l⟩;have g:Hid (ZF w.heap.size w (w1.alloc (ZC #[I J z.seq,I J z.ent,I J z.kind,I J z.tick] 147))):=l.alloc l.size _;clear l;go_upto_region 2 with fail;generalize World.alloc _ _=w3 at g ⊢;go_wp2_with fail;go_ret;exact⟨rfl,g.out⟩
 ·rw[if_neg i];rw[show(!M.L.isEmpty)=true by cases H:M.L with|nil=>exact absurd H i|cons a b=>rfl]at d;have m:=u i;obtain⟨z,p⟩:∃z,z=Gd M.L:=⟨_,rfl⟩
  rw[<-p]at d m ⊢;have j:=G (fun W (D:ZF w.heap.size w W)=>Xu B z W (v.low D n) (No n D.size) m);unfold Aq at d j;unfold C7;obtain⟨s,E⟩:∃s,s=B6 (C5 z):=⟨_,rfl⟩
  rw[<-E]at j ⊢;clear h q v y p i u m E;go_enter func135,ntmps135;go_wp2_with fail;refine d.mono ?_;rintro e w1 ⟨rfl,l⟩;have g:Hid (ZF w.heap.size w (w1.alloc (ZC #[I J z.seq,I J z.ent,I J z.kind,I J z.tick] 147))):=l.alloc l.size _;have A:Hid ((w1.alloc (ZC #[I J z.seq,I J z.ent,I J z.kind,I J z.tick] 147)).heap[w1.heap.size]? =U (D7 z)):=Ab w1 (ZC #[I J z.seq,I J z.ent,I J z.kind,I J z.tick] 147);clear l;go_upto_region 2 with fail;generalize World.alloc _ _=w3 at g A ⊢;obtain⟨R,S,X,Y⟩:=Ay (show w3.heap[w1.heap.size]? =U (ZC #[I J z.seq,I J z.ent,I J z.kind,I J z.tick] 147)from A.out);have HTd3:=G (j w3 g.out);go_wp2_with fail;refine HTd3.mono ?_;rintro e Q ⟨rfl,C⟩;have t:=G (g.trans (C.mono g.size));clear C;go_wp2_with fail;go_ret;exact⟨rfl,t.out⟩
structure U4 (w:V) (p:Nat) (L:List Ap) (i:Nat) (v:ZE) (b off:Nat) (wr:V):Prop where
 own:wr.ownsRow p 9 1 v i (Aj ((L.map fun r=>B6 (C5 r)).take i))
 rc:∀k (hk:k<L.length),wr.cell? ⟨b,off+k*4,O⟩=U (I J L[k].seq)/\wr.cell? ⟨b,off+k*4+1,O⟩=U (I J L[k].ent)/\wr.cell? ⟨b,off+k*4+2,O⟩=U (I J L[k].kind)/\wr.cell? ⟨b,off+k*4+3,O⟩=U (I J L[k].tick)
 bel:ZF w.heap.size w wr
 lo:w.heap.size<=p
 hi:p<=wr.heap.size
 bp:b<p
theorem U4.below{w wr w':V}{p i b off:Nat}{L:List Ap}{v:ZE}(h:U4 w p L i v b off wr)(k:ZF wr.heap.size wr w'):U4 w p L i v b off w':=by
 have a:b<wr.heap.size:=F5 h.bp h.hi;refine⟨Ff h.own (Al k) (fun _ _ _ h=>h),fun j m=>?_,h.bel.trans (k.mono h.bel.size),h.lo,No h.hi k.size,h.bp⟩;obtain⟨d,e,g,l⟩:=h.rc j m;exact⟨by rw[k.cell (p:=⟨b,_,O⟩) a];exact d,by rw[k.cell (p:=⟨b,_,O⟩) a];exact e,by rw[k.cell (p:=⟨b,_,O⟩) a];exact g,by rw[k.cell (p:=⟨b,_,O⟩) a];exact l⟩
theorem U4.next{w wz W w':V}{p i b off:Nat}{L:List Ap}{v v':ZE}(h:U4 w p L i v b off wz)(hi:i<L.length)(g:ZF wz.heap.size wz W)(y:w'.ownsRow p 9 1 v' (i+1) (Aj ((L.map fun r=>B6 (C5 r)).take i)++Aj [B6 (C5 L[i])]))(s:W.grownBy w' v.ownBlock):U4 w p L (i+1) v' b off w':=by
 have h2:=h.below g;have e:Ac (fun b=>U b=v.ownBlock) W w':=Ac.of_grown s;have j:=fun b (g:U b=v.ownBlock)=>(h2.own.lt b g.symm).1;have a:b<W.heap.size:=F5 h2.bp h2.hi;have d:¬U b=v.ownBlock:=fun t=>by have:=j b t;have:=h2.bp;omega
 refine⟨?_,fun k u=>?_,h2.bel.trans (e.below h2.bel.size (fun b g=>by have:=j b g;have:=h2.lo;omega)),h2.lo,No h2.hi e.size,h2.bp⟩
 ·rw[If (by rw[Fn];exact hi),Tq,List.getElem_map];exact y
 ·obtain⟨l,m,n,q⟩:=h2.rc k u;exact⟨by rw[e.cell (p:=⟨b,_,O⟩) a d];exact l,by rw[e.cell (p:=⟨b,_,O⟩) a d];exact m,by rw[e.cell (p:=⟨b,_,O⟩) a d];exact n,by rw[e.cell (p:=⟨b,_,O⟩) a d];exact q⟩
theorem Afk{L:List Ap}(h:∀r∈L,Zw r)(e:L.length<=8):(Lib.join (L.map C5) [44,32]).length<=1000:=by
 cases L with
 |nil=>decide
 |cons a l=>
  rw[Zz1,Lib.join_length];have:∀l:List Ap,(∀r∈l,Zw r)->Lib.lens (l.map C5)<=l.length*87:=by
   intro l;induction l with
   |nil=>intro _;simp[Lib.lens]
   |cons b l ih=>
    intro d;have h1:=kX (d b Zzo);have h2:=ih (fun r g=>d r (Zz5 _ g));simp only[Lib.lens,Zz1,List.sum_cons,Zz7]at h2 ⊢;omega
  have h2:=this (a::l) h;rw[Zz1]at h2;simp only[Zz7,Fn,Zyy]at h2 e ⊢;omega
theorem Yl(L:List Ap):((L.map fun r=>B6 (C5 r)).map (·.data.toList))=L.map C5:=by
 rw[Zyo];refine List.map_congr_left (fun r _=>?_);exact Cw _
theorem Aho(h:Bq B sa w0 kb c txt x M o w)(hO:Bn M T)(hT:L9 B w)(hp:w.heap[pb]? =U (plC kb c)):
  ZH ZI 138 #[ZA (U ⟨pb,0,O⟩)] w (C7 (Cr txt M 12 []).2.1 w):=by
 obtain⟨i0,ba,bb,bc,bd⟩:=info_parts infoStr;have qn:∀(w:V) (a:Option Addr) (n c n' c':Nat),(binOp .eql 22 (F a n c) (F O n' c')).run ZI w=.ok (.bool a.isNone) w:=fun w a n c n' c'=>Lib.run_eql_slice_nil w _ _ a n c n' c' underlying22;obtain⟨p0,p1⟩:=G2 hp;have C:=G (Agp h hO);show ZH _ _ _ _ (C7 (Sb M.L) w)
 have HR:=G hO.recs;have ac:=G h.top;have HT:=G hT;have h8:=hO.l8.1;obtain⟨L,hL⟩:∃L,L=M.L:=⟨_,rfl⟩
 rw[<-hL]at C HR h8 ⊢;unfold C7;clear h hO hT hp hL;by_cases hn:L= []
 ·subst hn;have g:Sb []=Em:=rfl;rw[g];go_enter func138,ntmps138;go_wp2_with fail;refine C.mono ?_;rintro e w1 ⟨v,rfl,sv,b1⟩;obtain⟨ao,cap,rfl⟩:=sv.val;have aq:=G b1;clear sv b1;go_wp2_with fail;go_loopw [3,12] (fun s3 y wr=>s3=F O 0 0/\y=I J 0/\wr=w1) (fun _ _ _=>0);case atStart=>exact⟨rfl,rfl,rfl⟩
  case round=>
   obtain⟨rfl,rfl,rfl⟩:=hrel;go_wp2_with fail;go_ret;exact⟨rfl,aq.out⟩
 ·have h0:0<L.length:=List.length_pos_iff.2 hn;have g:Sb L=B6 (Lib.join (L.map C5) [44,32]):=if_neg hn;have ad:=G g;clear hn g;go_enter func138,ntmps138;go_wp2_with fail;refine C.mono ?_;rintro e w1 ⟨v,rfl,sv,b1⟩;obtain⟨ao,cap,rfl⟩:=sv.val;obtain⟨b,off,rfl,a3,hb,hc⟩:=K7 sv h0;have s:Hid (U4 w w1.heap.size L 0 (F O 0 0) b off w1):=G (⟨Zzr _ _ _ _,hc,b1,b1.size,Y2 _,hb⟩);clear sv hc a3 hb b1 C;generalize hp:w1.heap.size=p at s ⊢;clear hp;obtain⟨n,X⟩:∃n,n=L.length:=⟨_,rfl⟩
  have HN:=G X;rw[<-X]at h0 h8 ⊢;clear X;go_wp2_with fail;go_loopw [3,12] (fun s3 y wr=>∃(i:Nat) (a1:Option Addr) (Z:Nat),i<=n/\s3=F a1 i Z/\y=I J i/\Hid (U4 w p L i (F a1 i Z) b off wr)) (fun _ y _=>n-(intOf y).toNat);case atStart=>exact⟨0,O,0,In _,rfl,rfl,s⟩
  case round=>
   obtain⟨i,a1,Z,hi,rfl,rfl,d⟩:=hrel;clear s;by_cases b5:i<n
   ·have bq:(i:Int)<n:=by omega
    have D:i<L.length:=by have:=HN.out;omega
    obtain⟨q0,q1,q2,q3⟩:=d.rc i D;have Y:=HR L[i] (M2 D);have K:=G (fun m W w' v' (t:ZF wr.heap.size wr m) hb ho hg=>(d.below t).next (W:=W) (w':=w') (v':=v') D hb ho hg);have HLay:=G (fun m (t:ZF wr.heap.size wr m) (x:Obj)=>And.intro ((d.below t).own.alloc x) (show p<=(m.alloc x).heap.size by rw[H7];have:=(d.below t).hi;omega));have q:=G (And.intro d.bel (And.intro d.bp d.hi));obtain⟨r,hr⟩:∃r,r=L[i]:=⟨_,rfl⟩
    rw[<-hr]at q0 q1 q2 q3 Y K;have N:=G (fun W (hW:ZF wr.heap.size wr W)=>Xu B r W (HT.low (q.1.trans (hW.mono q.1.size)) ac.out) (by have:=ac.out;have:=q.1.size;have:=hW.size;omega) Y);obtain⟨S,hS⟩:∃S:ByteArray,S=B6 (C5 r):=⟨_,rfl⟩
    obtain⟨cs,Q⟩:∃cs,cs=Aj ((L.map fun r=>B6 (C5 r)).take i):=⟨_,rfl⟩
    rw[<-hS,<-Q]at K;rw[<-hS]at N;have HLay2:Hid (∀m (t:ZF wr.heap.size wr m) (x:Obj),(m.alloc x).ownsRow p 9 1 (F a1 i Z) i cs/\p<=(m.alloc x).heap.size):=G (by rw[Q];exact HLay.out);have a0:Hid (i+1<=maxLen):=G (by unfold maxLen;omega);have a5:Hid ((i+1)*16<=140737488355328):=G (by omega);unfold Aq at N;have b3:b<wr.heap.size:=by have:=q.out;omega
    have A:Hid (ZF wr.heap.size wr (wr.alloc (ZC #[I J r.seq,I J r.ent,I J r.kind,I J r.tick] 147))):=(R1 wr.heap.size wr).alloc (Y2 _) _;have HX:Hid ((wr.alloc (ZC #[I J r.seq,I J r.ent,I J r.kind,I J r.tick] 147)).heap[wr.heap.size]? =U (D7 r)):=Ab wr (ZC #[I J r.seq,I J r.ent,I J r.kind,I J r.tick] 147);clear d HLay hr hS Q Y q D;go_upto_region 5 with fail;generalize World.alloc _ _=w3 at A HX ⊢;clear q0 q1 q2 q3;obtain⟨x0,x1,x2,x3⟩:=Ay (show w3.heap[wr.heap.size]? =U (ZC #[I J r.seq,I J r.ent,I J r.kind,I J r.tick] 147)from HX.out);have HTd3:=G (N w3 A.out);go_wp2_with fail;refine HTd3.mono ?_;rintro e m ⟨rfl,t⟩;have H:=G (A.trans (t.mono A.size));clear t x0 x1 x2 x3;go_wp2_with (at_builtin;go_must (refine Bc rfl (.tmp 16) (.tmp 19) 22 rfl p 9 i0 _ 1 16 underlying22 ba bb bc bd rfl (by decide) _ i _ rfl (HLay2 m H _).1 ⟨m.heap.size,0,O⟩ 1 1 (Aj [S]) rfl rfl (A1 _ (Aj [S]) _) (Ph _) a0 a5 (HLay2 m H _).2 ?_;intro a2 k2 w4 ho hg;have nx:=G (K m _ w4 _ H ((R1 _ _).alloc (Y2 _) _) ho hg);clear ho hg));go_roundw;case rel=>exact⟨i+1,a2,k2,by omega,rfl,by go_num,nx⟩
    case measure=>simp[intOf];omega
   ·obtain rfl:i=n:=by omega
    have ag:=HN.out;have g:=Ge d.own;rw[Zy0 (by rw[Fn];omega)]at g;have R:(L.map fun r=>B6 (C5 r)).length=i:=by rw[Fn];exact ag.symm
    obtain⟨hl4,ao,cap,hv,a6,a7,a8,a9⟩:=id g;injection hv with e1 e2 e3;subst e1;subst e3;obtain⟨jb,E,rfl,hR,af,u⟩:=E8 (ao:=a1) (n:=i) (cap:=Z) (l:=L.map fun r=>B6 (C5 r)) (by rw[R];exact g) (by omega);have HJ:=Tryz.strings_Join jb E Z (L.map fun r=>B6 (C5 r)) ⟨#[44,32]⟩ wr (fun j x hx=>by
     obtain⟨hj,rfl⟩:=List.getElem?_eq_some_iff.1 hx;exact u j hj) af (by omega) (by omega) (by
     rw[Yl];have:=Afk HR (by omega);show(Lib.join (L.map C5) [44,32]).length<=_
     omega)
    rw[Yl,R]at HJ;have av:Hid (ZH ZI 139 #[F (U ⟨jb,E,O⟩) i Z,ZB ⟨#[44,32]⟩] wr fun e w'=>e=ZD (ZB (Sb L))/\ZF wr.heap.size wr w'):=G (by
     rw[ad.out];exact HJ)
    have HB:=G d.bel;clear HJ d g hl4 a6 a7 a8 a9 u af hR ad HT HR R ag HN;go_wp2_with fail;refine av.mono ?_;rintro e m ⟨rfl,t⟩;have ar:=G (HB.trans (t.mono HB.size));clear t;go_wp2_with fail;go_ret;exact⟨rfl,ar.out⟩
end
section
open Go.ChangeShapes Go.WideShapes Go.ChangeAt Go.RowKit
section
variable {P:Program} {ti tp te ts:TypeId} {ms:Array (String × TypeId)} {f:Field}
theorem pU(hi:P.underlying ti=U (.interface ms))(d:∀u,P.typeName? 3 u=U "*errors.errorString"->u=tp)(K:P.underlying tp=U (.pointer te))(H:P.underlying te=U (.struct #[f]))(n:f.type=ts)(m:f.offset=0)
  (N:P.underlying ts=U .string) (E:P.cellsOf te=1) (l:P.cellsOf ts=1) {W:V}:
  ∀(L:List (String × List UInt8)) (gs:List Nat),gs.length=L.length->(∀k (h1:k<L.length) (h2:k<gs.length),P.globalNamed (L[k]).1=U gs[k]/\(P.globals[gs[k]]?).map (·.type)=U ti)->
  ∀ps,DataW.LaidVars P W (L.map fun x=>(x.1,kV x.2)) ps->ps.Nodup->
  (∀b off,MemPlace.cell b off∈ps->(∃c t,W.heap[b]? =U (ZC c t (0,0)))/\∀u v,W.cell? ⟨b,off,O⟩=U (.iface u v)->Value.okWide P W .any 0 u v)->
  ∃bs:List Addr,bs.length=L.length/\bs.Nodup/\(∀a∈bs,a.spot=O/\MemPlace.cell a.block a.off∈ps)/\∀k (h1:k<L.length) (h2:k<gs.length) (h3:k<bs.length),W.cell? ⟨gs[k],0,O⟩=U (.iface tp (ZA (U bs[k])))/\W.cell? bs[k]=U (ZB ⟨(L[k]).2.toArray⟩)
 |[],gs,_,_,ps,_,_,_=>⟨[],rfl,List.nodup_nil,(fun a ha=>by simp at ha),(fun k h=>by simp at h)⟩
 |x::L,[],hl,_,_,_,_,_=>by simp at hl
 |x::L,g::gs,hl,hg,ps,hv,hnd,hrows=>by
  obtain⟨g0,t0,cs0,f0,p0,q0,hg0,ht0,hv0,hd0,hr0,rfl⟩:=hv
  have p:P.globalNamed x.1=U g/\(P.globals[g]?).map (·.type)=U ti:=hg 0 (by simp) (by simp)
  obtain rfl:g=g0:=Option.some.inj (p.1.symm.trans hg0)
  obtain rfl:ti=t0:=Option.some.inj (p.2.symm.trans ht0)
  obtain⟨l0⟩:=cs0
  have A:∀u v,l0= [.iface u v]->Value.okWide P W .any 0 u v:=fun u v e=>by
   subst e
   exact(hrows g 0 (by simp[MemPlace.row])).2 u v (by simpa using Zxu hg0 hv0 0)
  obtain⟨i,s0,rfl,j,y,S,rfl⟩:=errorString_of_trod hi d K H n m N E l hd0 A
  have q:MemPlace.cell i.block i.off∈MemPlace.row i 1:=by simp[MemPlace.row]
  obtain⟨bs,h1,h2,h3,Q⟩:=pU hi d K H n m N E l L gs (by simpa using hl) (fun k C D=>by
   have:=hg (k+1) (by simpa using C) (by simpa using D)
   simpa using this) q0 hr0 ((List.nodup_append.1 hnd).2.1) (fun b off s=>hrows b off (Zzz _ s))
  refine⟨i::bs,by simp[h1],List.nodup_cons.2 ⟨fun s=>?_,h2⟩,fun a ha=>?_,fun k C D X=>?_⟩
  ·have R:=(h3 i s).2
   exact(List.nodup_append.1 hnd).2.2 _ (Zzz _ q) _ R rfl
  ·rcases List.mem_cons.1 ha with rfl|ha
   ·exact⟨World.cell?_spot j,Zzf _ (Zzz _ q)⟩
   ·exact⟨(h3 a ha).1,Zzz _ (h3 a ha).2⟩
  ·cases k with
   |zero=>exact⟨by simpa using Zxu hg0 hv0 0,by
    have e:s0=⟨x.2.toArray⟩:=by rw[<-y]
    show W.cell? i=U (Value.string ⟨x.2.toArray⟩)
    rw[<-e];exact j⟩
   |succ k=>exact Q k (by simpa using C) (by simpa using D) (by simpa using X)
end
theorem Afi{W:V}(h:laidMet ZI (Ts.map fun x=>(x.1,kV x.2)) W)(h2:handlesMet ZI [("errors.errorType",Aeu)] W):∃sa,Ii W.heap.size sa W/\∀k,k<11->W.cell? (sa k)=U (ZB (He (k+1))):=by
 obtain⟨ps,X,C,d⟩:=h;obtain⟨bs,Y,Z,q3,L⟩:=pU underlying25 rowE underlying372 underlying374 rfl rfl underlying9 cellsE cellsS Ts Qq rfl (fun k h1 h2=>by
  have v:=congrArg (fun l=>l[k]?) sentNames;have y:=congrArg (fun l=>l[k]?) sentTypes;simp only[Zzl,R4 h1,R4 h2,Option.map_some,Option.some.injEq]at v y;exact⟨v,y⟩) ps X C d
 have S:bs.length=11:=Y;refine⟨fun k=>bs.getD k ⟨0,0,O⟩,Ii.mk' (fun k q=>?_) (fun i j hi hj A=>?_) (fun k q=>?_) ?_,fun k q=>?_⟩
 ·have g:k<Ts.length:=q;have m:k<Qq.length:=q;have a:k<bs.length:=by omega
  have:=(L k g m a).1;have e:sg k=Qq[k]:=by unfold sg;rw[Of];show(Qq[k]?).getD 0=_;rw[R4 m];rfl
  rw[e,this];show _=U (Value.iface _ (ZA (U (bs.getD k _))))
  rw[Of,R4 a];rfl
 ·have n:i<bs.length:=by omega
  have p:j<bs.length:=by omega
  show bs.getD i _≠bs.getD j _
  rw[Of,Of,R4 n,R4 p];have K:=List.pairwise_iff_getElem.1 Z;rcases Nat.lt_or_gt_of_ne A with h|h
  ·exact K i j n p h
  ·exact fun e=>K j i p n h e.symm
 ·have a:k<bs.length:=by omega
  show(bs.getD k _).block<_/\∃c t,W.heap[(bs.getD k _).block]? =_
  rw[Of,R4 a];obtain⟨c,t,E⟩:=(d _ _ (q3 _ (M2 a)).2).1;exact⟨Aa E,c,t,E⟩
 ·obtain⟨name,u,ty,v,y,N,Q,D⟩:=h2 _ (List.mem_singleton.2 rfl);have R:name= [101,114,114,111,114]:=(Option.some.inj v).symm;subst R;obtain rfl:=Option.some.inj (rtName.symm.trans y);have H:ty∈(List.range 414).filter fun t=>ZI.rowNamed t [101,114,114,111,114]:=List.mem_filter.2 ⟨List.mem_range.2 (by rw[<-nTypes];exact N),Q⟩;rw[oneError]at H;obtain rfl:=List.mem_singleton.1 H;rw[handleE]at D;simpa using Zxu etName D 0
 ·have g:k<Ts.length:=q;have m:k<Qq.length:=q;have a:k<bs.length:=by omega
  have:=(L k g m a).2;show W.cell? (bs.getD k _)=_
  rw[Of,R4 a];show W.cell? bs[k]=_
  rw[this];congr 2;have s:∀k:Fin 11,(⟨(Ts.getD k.1 ("",[])).2.toArray⟩:ByteArray)=He (k.1+1):=by decide
  rw[<-s ⟨k,q⟩,Of,R4 g];rfl
