import Derived.Test.YtikehilbmldadaaGreatDoorP47
import Derived.Lib.LaidTab
import Derived.Stop.LaidErr
import Derived.LaidMore
import Derived.LaidSub
import Derived.Lay
import Derived.LaidOnce
import Derived.MakeChecks
set_option linter.unusedVariables false
open Go.Proofs.Tryz Go.Proofs.YtikehilbmldadaaGreatDoor.Tryz Go.RowKit
open Go renaming World->V,Value->ZE,Value.slice->F,Value.string->ZB,Proofs.Tryz.prog->ZI
open Option renaming some->U,none->O
namespace Go.Proofs.YtikehilbmldadaaGreatDoor
structure qV where
 word:ByteArray
 ns:List Int
 vn:ZE
def Alu(r:qV):List ZE:=[ZB r.word,r.vn]
structure Amb (R:Nat->Prop) (w:V) (v:ZE) (l:List qV):Prop where
 row:Av R w v 2 (l.flatMap Alu) l.length
 each:∀r∈l,Av R w r.vn 1 (Ad r.ns) r.ns.length
 i64:∀r∈l,∀k∈r.ns,-9223372036854775808<=k/\k<=9223372036854775807
theorem Acd{R:Nat->Prop}{w:V}{ao:Option Addr}{n cap:Nat}{l:List qV}(h:Av R w (F ao n cap) 2 (l.flatMap Alu) l.length)(h0:0<l.length):
  ∃b off,ao=U ⟨b,off,O⟩/\R b/\b<w.heap.size/\∀k (hk:k<l.length),w.cell? ⟨b,off+k*2,O⟩=U (ZB l[k].word)/\w.cell? ⟨b,off+k*2+1,O⟩=U l[k].vn:=by
 obtain⟨b,off,e,d,f,a⟩:=h.elem (fun _=>rfl) (by decide) h0;exact⟨b,off,e,d,f,fun k hk=>⟨a k hk 0 _ rfl,a k hk 1 _ rfl⟩⟩
theorem Agg{S:ByteArray}{i:Nat}{a:List Nat}(hi:i<14)(l:a.length=Ee i)(f:∀k∈a,k<100000)(e:S.data.toList=Oi i a):S.size<=100:=by
 have j:S.data.toList.length=S.size:=by rw[C2];rfl
 rw[<-j,e];unfold Oi;rw[Te,R2,Zyc];have m:(Ej.getD i (ByteArray.empty,0)).1.data.toList.length<=6/\Ee i<=2:=by
  have d:∀i:Fin 14,(Ej.getD i.1 (ByteArray.empty,0)).1.data.toList.length<=6/\Ee i.1<=2:=by decide
  exact d ⟨i,hi⟩
 have:∀a:List Nat,(∀k∈a,k<100000)->(a.flatMap (fun k:Nat=>32::Lib.itoa (k:Int))).length<=a.length*22:=by
  intro a;induction a with
  |nil=>intro _;simp
  |cons k a ih=>
   intro h;have h1:=Km (n:=k) (by have:=h k Zzo;omega);have h2:=ih (fun q g=>h q (Zz5 _ g));rw[Zz6,R2,Zz7,Zz7];omega
 have h3:=this a f;show _+(a.flatMap (fun k:Nat=>32::Lib.itoa (k:Int))).length<=100
 omega
theorem Af9{ns:List Int}(h:ns.length=1)(h0:∀k∈ns,0<=k)(a:0<ns.length):(((ns.map Int.toNat).getD 0 0:Nat):Int)=ns[0]:=by
 match ns,h with
 |[z],_=>
  have:=h0 z (by simp);simp;omega
end Go.Proofs.YtikehilbmldadaaGreatDoor
namespace Go.Proofs.YtikehilbmldadaaGreatDoor
open Go.ChangeShapes Go.WideShapes Go.ChangeAt Go.RowKit Go.Deep
section
variable {H:Type} {enc:TypeId × ZE->H} {P:Program} {w:V}
def Rd(enc:TypeId × ZE->H)(P:Program)(w:V)(t:TypeId)(cs:List ZE):Prop:=∃n x,DataW.trod enc P w 0 (fun _=>true) true n t cs=U x
theorem Ame{t:TypeId}{v:ZE}{d:DataW H}{p:List MemPlace}(h:DataW.Trod enc P w 0 (fun _=>true) true t v d p):Rd enc P w t v.cells.toList:=by
 obtain⟨n,a⟩:=h;exact⟨n,_,a⟩
theorem Rd.field{t:TypeId}{fs:Array Field}{e:List ZE}(l:P.underlying t=U (.struct fs))(h:Rd enc P w t e)(i:Nat)(f:Field)(g:fs[i]? =U f):Rd enc P w f.type ((e.drop f.offset).take (P.cellsOf f.type)):=by
 obtain⟨n,x,o⟩:=h;obtain⟨j,m,_,_,_,d,a⟩:=DataW.trod_struct l o;have hi:i<j.length:=by rw[d];exact(Array.getElem?_eq_some_iff.1 g).1
 exact⟨m,j[i],by rw[a i f g];simp[hi]⟩
theorem Rd.fieldAt{t:TypeId}{fs:Array Field}{e:List ZE}(j:P.underlying t=U (.struct fs))(h:Rd enc P w t e)(i:Nat){T off k:Nat}(g:P.cellsOf T=k)(d:(fs[i]?).map (fun f=>(f.type,f.offset))=U (T,off)):Rd enc P w T ((e.drop off).take k):=by
 cases a:fs[i]? with
 |none=>rw[a]at d;cases d
 |some f=>
  rw[a]at d;simp only[Option.map_some,Option.some.injEq,Prod.mk.injEq]at d;obtain⟨rfl,rfl⟩:=d;rw[<-g];exact h.field j i f a
theorem Rd.len{t:TypeId}{fs:Array Field}{a:List ZE}(e:P.underlying t=U (.struct fs))(h:Rd enc P w t a):a.length=P.cellsOf t:=by
 obtain⟨n,x,f⟩:=h;obtain⟨g,m,_,_,d,_,_⟩:=DataW.trod_struct e f;exact d
theorem Rd.item{t e:TypeId}{n:Nat}{f:List ZE}(g:P.underlying t=U (.array n e))(h:Rd enc P w t f)(i:Nat)(hi:i<n):Rd enc P w e ((f.drop (i*P.cellsOf e)).take (P.cellsOf e)):=by
 obtain⟨m,x,j⟩:=h;obtain⟨l,k,_,_,_,d,a⟩:=DataW.trod_array g j;exact⟨k,l[i]'(by omega),by rw[a i hi];simp[d,hi]⟩
theorem Rd.itemAt{t e:TypeId}{n:Nat}{a:List ZE}(f:P.underlying t=U (.array n e))(h:Rd enc P w t a)(i:Nat)(hi:i<n){k:Nat}(d:P.cellsOf e=k):Rd enc P w e ((a.drop (i*k)).take k):=by
 rw[<-d];exact h.item f i hi
theorem Rd.alen{t e:TypeId}{n:Nat}{a:List ZE}(f:P.underlying t=U (.array n e))(h:Rd enc P w t a):a.length=P.cellsOf t:=by
 obtain⟨m,x,g⟩:=h;obtain⟨i,k,_,_,d,_,_⟩:=DataW.trod_array f g;exact d
theorem Rd.int{t:TypeId}{k:IntKind}{a:List ZE}(e:P.underlying t=U (.int k))(h:Rd enc P w t a):∃n,a= [.int k n]/\(Lit.int k n).wf=true:=by
 obtain⟨m,x,g⟩:=h;obtain⟨n,d,_,f⟩:=DataW.trod_int e g;exact⟨n,d,f⟩
theorem Rd.str{t:TypeId}{a:List ZE}(f:P.underlying t=U .string)(h:Rd enc P w t a):∃s:ByteArray,a= [.string s]/\s.size<=maxLen:=by
 obtain⟨m,x,g⟩:=h;obtain⟨n,d,_,e⟩:=DataW.trod_string f g;exact⟨n,d,e⟩
theorem Rd.rows{α:Type}[Inhabited α](f:α->List ZE)(d:Nat)(B:∀x,(f x).length=d)(j:0<d){t e:TypeId}(ht:P.underlying t=U (.slice e))(hc:P.cellsOf e=d)
  (Q:α->Prop) (C:∀cs,Rd enc P w e cs->∃r,cs=f r/\Q r) {v:ZE} (h:Rd enc P w t [v]):∃l:List α,Av (· <w.heap.size) w v d (l.flatMap f) l.length/\∀r∈l,Q r:=by
 obtain⟨n,x,T⟩:=h;rcases open_slice ht T with⟨S,_⟩|⟨a,len,cap,m,k,D,Pl,S,_,hl,hm,M,_,s⟩
 ·obtain rfl:v=F O 0 0:=by simpa using S
  exact⟨[],Av.nil _ _ _,fun r o=>by cases o⟩
 ·obtain rfl:v=F (U a) len cap:=by simpa using S
  obtain rfl:m=cap:=by simpa using M
  have E:∀i,i<m->∃r,(w.cells? 0 (a.add (i*d)) d=U (f r)/\Q r):=fun i hi=>by
   obtain⟨L,h1,h2⟩:=s i hi;obtain⟨r,o,N⟩:=C L ⟨k,_,h2⟩;rw[hc,o]at h1;exact⟨r,h1,N⟩
  obtain⟨r,o⟩:=choose_lt E;refine⟨(List.range len).map r,⟨by rw[Hj f d B],U a,m,by simp,by simpa using hl,hm,(fun h=>by cases h),fun hp=>?_⟩,?_⟩
  ·have Z:0<len:=by
    rw[Hj f d B,Fn,List.length_range]at hp;exact Nat.pos_of_ne_zero (fun h=>by subst h;simp at hp)
   have c0:=World.cells?_some (o 0 (by omega)).1;have g:=c0.2.2 0 j;rw[R4 (by rw[B];exact j)]at g;obtain⟨b,off,K⟩:=a;have p:K=O:=by simpa [Addr.add] using World.cell?_spot g
   subst p;refine⟨b,off,rfl,?_,?_,?_⟩
   ·have:=R3 _ _ g;simpa [Addr.add] using this
   ·have:=R3 _ _ g;simpa [Addr.add] using this
   ·intro q u hu;have N:q<((List.range len).map r).length*d:=by rw[<-Hj f d B];exact(List.getElem?_eq_some_iff.1 hu).1
    have R:q<len*d:=by simpa using N
    have hi:q/d<len:=(Nat.div_lt_iff_lt_mul j).2 R;have Y:q%d<d:=Zx5 _ j;have A:q/d*d+q%d=q:=by rw[Nat.mul_comm];exact Nat.div_add_mod q d
    have X:=Q8 f d B ((List.range len).map r) (q/d) (by simpa using hi) (q%d) Y;rw[A,hu]at X;have y:=(World.cells?_some (o (q/d) (by omega)).1).2.2 (q%d) Y;rw[Dt,Dt,Zzm,A]at y;rw[y];simpa using X.symm
  ·intro x T;obtain⟨i,hi,rfl⟩:=List.mem_map.1 T;exact(o i (by have:=List.mem_range.1 hi;omega)).2
end
theorem Amg{l:List ZE}(h:l.length=2):∃c0 c1,l= [c0,c1]:=by
 match l,h with
 |[c0,c1],_=>exact⟨_,_,rfl⟩
theorem Anm{l:List ZE}(h:l.length=4):∃c0 c1 c2 c3,l= [c0,c1,c2,c3]:=by
 match l,h with
 |[c0,c1,c2,c3],_=>exact⟨_,_,_,_,rfl⟩
theorem Am2{l:List ZE}(h:l.length=10):∃c0 c1 c2 c3 c4 c5 c6 c7 c8 c9,l= [c0,c1,c2,c3,c4,c5,c6,c7,c8,c9]:=by
 match l,h with
 |[c0,c1,c2,c3,c4,c5,c6,c7,c8,c9],_=>exact⟨_,_,_,_,_,_,_,_,_,_,rfl⟩
instance:Inhabited Ix:=⟨⟨0,0,0,0⟩⟩
theorem Tryz.cInt:ZI.cellsOf 3=1:=by kernel_rfl
theorem Tryz.cStr:ZI.cellsOf 9=1:=by kernel_rfl
theorem Tryz.cGap:ZI.cellsOf 126=4:=by kernel_rfl
theorem Tryz.cEdge:ZI.cellsOf 127=2:=by kernel_rfl
theorem Tryz.cEnt:ZI.cellsOf 50=10:=by kernel_rfl
theorem Tryz.cSl1:ZI.cellsOf 22=1:=by kernel_rfl
theorem Tryz.cSl2:ZI.cellsOf 46=1:=by kernel_rfl
theorem Tryz.cSl3:ZI.cellsOf 47=1:=by kernel_rfl
theorem Tryz.cSl4:ZI.cellsOf 48=1:=by kernel_rfl
def I64(n:Int):Prop:=-9223372036854775808<=n/\n<=9223372036854775807
theorem Fc{n:Int}(h:(Lit.int .i64 n).wf=true):I64 n:=by
 simp[Lit.wf,IntKind.min,IntKind.max,IntKind.signed,IntKind.bits]at h;unfold I64;omega
section
variable {H:Type} {enc:TypeId × ZE->H} {w:V}
theorem Amx(a:List ZE)(h:Rd enc ZI w 126 a):∃r,a=Cu r/\(I64 r.fr/\I64 r.dst/\I64 r.mn/\I64 r.mx):=by
 obtain⟨c0,c1,d,e,rfl⟩:=Anm ((h.len underlying126).trans cGap);obtain⟨f,h0,w0⟩:=(show Rd enc ZI w 3 [c0] from h.fieldAt underlying126 0 cInt rfl).int underlying3;obtain⟨n1,h1,w1⟩:=(show Rd enc ZI w 3 [c1] from h.fieldAt underlying126 1 cInt rfl).int underlying3;obtain⟨g,h2,j⟩:=(show Rd enc ZI w 3 [d] from h.fieldAt underlying126 2 cInt rfl).int underlying3;obtain⟨i,h3,l⟩:=(show Rd enc ZI w 3 [e] from h.fieldAt underlying126 3 cInt rfl).int underlying3;simp at h0 h1 h2 h3;subst h0 h1 h2 h3;exact⟨⟨f,n1,g,i⟩,rfl,Fc w0,Fc w1,Fc j,Fc l⟩
theorem Alk(a:List ZE)(h:Rd enc ZI w 127 a):∃r,a=Cn r/\(I64 r.1/\I64 r.2):=by
 obtain⟨c0,c1,rfl⟩:=Amg ((h.alen underlying127).trans cEdge);obtain⟨d,h0,w0⟩:=(show Rd enc ZI w 3 [c0] from h.itemAt underlying127 0 (by decide) cInt).int underlying3;obtain⟨n1,h1,w1⟩:=(show Rd enc ZI w 3 [c1] from h.itemAt underlying127 1 (by decide) cInt).int underlying3;simp at h0 h1;subst h0 h1;exact⟨(d,n1),rfl,Fc w0,Fc w1⟩
theorem Abv(a:List ZE)(h:Rd enc ZI w 3 a):∃r:Int,a= [.int .i64 r]/\I64 r:=by
 obtain⟨n,d,e⟩:=h.int underlying3;exact⟨n,d,Fc e⟩
theorem Amw(cs:List ZE)(h:Rd enc ZI w 9 cs):∃r:ByteArray,cs= [ZB r]/\r.size<=maxLen:=h.str underlying9
structure Ak5 (E:Ak):Prop where
 name:E.name.size<=maxLen
 tol:I64 E.tol
 count:I64 E.count
 mn:I64 E.mn
 mx:I64 E.mx
 points:∀s∈E.points,s.size<=maxLen
 gaps:∀r∈E.gaps,I64 r.fr/\I64 r.dst/\I64 r.mn/\I64 r.mx
 edges:∀r∈E.edges,I64 r.1/\I64 r.2
 first:∀r∈E.first,I64 r
 last:∀r∈E.last,I64 r
theorem yO{α:Type}(g:α->ZE)(l:List α):l.flatMap (fun x=>[g x])=l.map g:=by
 induction l with
 |nil=>rfl
 |cons x l ih=>simp[ih]
theorem Amy{v:ZE}(y:∃cs:Array ZE,v=.agg cs)(h:Rd enc ZI w 50 v.cells.toList):∃E vp vg ve vf vl,v=.agg (As E vp vg ve vf vl)/\Dk (· <w.heap.size) w E vp vg ve vf vl/\Ak5 E:=by
 obtain⟨cs,rfl⟩:=y;have a:Rd enc ZI w 50 cs.toList:=h;obtain⟨c0,c1,d,j,l,m,e,f,g,i,u⟩:=Am2 ((a.len underlying50).trans cEnt);obtain rfl:cs=#[c0,c1,d,j,l,m,e,f,g,i]:=by cases cs;simp_all
 obtain⟨s0,h0,w0⟩:=(show Rd enc ZI w 9 [c0] from a.fieldAt underlying50 0 cStr rfl).str underlying9;obtain⟨n1,h1,w1⟩:=(show Rd enc ZI w 3 [c1] from a.fieldAt underlying50 1 cInt rfl).int underlying3;have T:Rd enc ZI w 22 [d]:=a.fieldAt underlying50 2 cSl1 rfl;obtain⟨D,h3,w3⟩:=(show Rd enc ZI w 3 [j] from a.fieldAt underlying50 3 cInt rfl).int underlying3;obtain⟨K,o,w4⟩:=(show Rd enc ZI w 3 [l] from a.fieldAt underlying50 4 cInt rfl).int underlying3;obtain⟨L,p,w5⟩:=(show Rd enc ZI w 3 [m] from a.fieldAt underlying50 5 cInt rfl).int underlying3;have r6:Rd enc ZI w 46 [e]:=a.fieldAt underlying50 6 cSl2 rfl;have X:Rd enc ZI w 47 [f]:=a.fieldAt underlying50 7 cSl3 rfl;have Y:Rd enc ZI w 48 [g]:=a.fieldAt underlying50 8 cSl4 rfl;have Z:Rd enc ZI w 48 [i]:=a.fieldAt underlying50 9 cSl4 rfl;simp at h0 h1 h3 o p;subst h0 h1 h3 o p;obtain⟨C,t,S⟩:=T.rows (fun s:ByteArray=>[Value.string s]) 1 (fun _=>rfl) (by decide) underlying22 cStr _ (Amw);obtain⟨B,sg,Q⟩:=r6.rows Cu 4 (fun _=>rfl) (by decide) underlying46 cGap _ Amx;obtain⟨le,se,M⟩:=X.rows Cn 2 (fun _=>rfl) (by decide) underlying47 cEdge _ Alk;obtain⟨A,q,N⟩:=Y.rows (fun n:Int=>[Value.int .i64 n]) 1 (fun _=>rfl) (by decide) underlying48 cInt _ Abv;obtain⟨ll,sl,R⟩:=Z.rows (fun n:Int=>[Value.int .i64 n]) 1 (fun _=>rfl) (by decide) underlying48 cInt _ Abv;rw[yO]at t q sl;exact⟨⟨s0,n1,C,D,K,L,B,le,A,ll⟩,d,e,f,g,i,rfl,⟨t,sg,se,q,sl⟩,⟨w0,Fc w1,Fc w3,Fc w4,Fc w5,S,Q,M,N,R⟩⟩
end
end Go.Proofs.YtikehilbmldadaaGreatDoor
namespace Go.Proofs.YtikehilbmldadaaGreatDoor
open Go.ChangeShapes Go.WideShapes Go.ChangeAt Go.RowKit Go.Deep
instance:Inhabited qV:=⟨⟨ByteArray.empty,[],F O 0 0⟩⟩
theorem Tryz.cLine:ZI.cellsOf 73=2:=by kernel_rfl
theorem Ali{H:Type}{enc:TypeId × ZE->H}{w:V}(a:List ZE)(h:Rd enc ZI w 73 a):∃r:qV,a=Alu r/\(Av (· <w.heap.size) w r.vn 1 (Ad r.ns) r.ns.length/\∀k∈r.ns,I64 k):=by
 obtain⟨c0,c1,rfl⟩:=Amg ((h.len underlying73).trans cLine);obtain⟨d,h0,w0⟩:=(show Rd enc ZI w 9 [c0] from h.fieldAt underlying73 0 cStr rfl).str underlying9;have f:Rd enc ZI w 48 [c1]:=h.fieldAt underlying73 1 cSl4 rfl;simp at h0;subst h0;obtain⟨ln,sn,e⟩:=f.rows (fun n:Int=>[Value.int .i64 n]) 1 (fun _=>rfl) (by decide) underlying48 cInt _ Abv;rw[yO]at sn;exact⟨⟨d,ln,c1⟩,rfl,sn,e⟩
end Go.Proofs.YtikehilbmldadaaGreatDoor
namespace Go.Proofs.YtikehilbmldadaaGreatDoor
open Go.ChangeShapes Go.WideShapes Go.ChangeAt Go.RowKit Go.Deep
theorem Anl{l:List ZE}(h:l.length=5):∃c0 c1 c2 c3 c4,l= [c0,c1,c2,c3,c4]:=by
 match l,h with
 |[c0,c1,c2,c3,c4],_=>exact⟨_,_,_,_,_,rfl⟩
instance:Inhabited A2:=⟨⟨⟨ByteArray.empty,0,[],0,0,0,[],[],[],[]⟩,F O 0 0,F O 0 0,F O 0 0,F O 0 0,F O 0 0⟩⟩
theorem Tryz.cConf:ZI.cellsOf 30=5:=by kernel_rfl
theorem Tryz.cSlE:ZI.cellsOf 28=1:=by kernel_rfl
structure Anc (C:Ar):Prop where
 closed:I64 C.closed
 opn:I64 C.opn
 cycle:I64 C.cycle
 delay:I64 C.delay
 ents:∀E∈C.ents,Ak5 E
section
variable {H:Type} {enc:TypeId × ZE->H} {w:V}
theorem Alj(a:List ZE)(h:Rd enc ZI w 50 a):∃x:A2,a=A5 x/\(Dk (· <w.heap.size) w x.E x.p x.g x.e x.f x.l/\Ak5 x.E):=by
 obtain⟨E,o,n,ve,m,vl,i,d,j⟩:=Amy (v:=.agg a.toArray) ⟨_,rfl⟩ h;refine⟨⟨E,o,n,ve,m,vl⟩,?_,d,j⟩;have:=congrArg Array.toList (Value.agg.inj i);simpa [A5] using this
theorem All{v:ZE}(m:∃cs:Array ZE,v=.agg cs)(h:Rd enc ZI w 30 v.cells.toList):∃C X vX,v=.agg (Az C vX)/\F0 (· <w.heap.size) w vX X/\C.ents=X.map A2.E/\Anc C:=by
 obtain⟨cs,rfl⟩:=m;have a:Rd enc ZI w 30 cs.toList:=h;obtain⟨c0,c1,f,g,d,l⟩:=Anl ((a.len underlying30).trans cConf);obtain rfl:cs=#[c0,c1,f,g,d]:=by cases cs;simp_all
 obtain⟨n,h0,w0⟩:=(show Rd enc ZI w 3 [c0] from a.fieldAt underlying30 0 cInt rfl).int underlying3;obtain⟨n1,h1,w1⟩:=(show Rd enc ZI w 3 [c1] from a.fieldAt underlying30 1 cInt rfl).int underlying3;obtain⟨o,h2,t⟩:=(show Rd enc ZI w 3 [f] from a.fieldAt underlying30 2 cInt rfl).int underlying3;obtain⟨p,h3,u⟩:=(show Rd enc ZI w 3 [g] from a.fieldAt underlying30 3 cInt rfl).int underlying3;have q:Rd enc ZI w 28 [d]:=a.fieldAt underlying30 4 cSlE rfl;simp at h0 h1 h2 h3;subst h0 h1 h2 h3;obtain⟨X,s,i⟩:=q.rows A5 10 (fun _=>rfl) (by decide) underlying28 cEnt _ Alj;refine⟨⟨n,n1,o,p,X.map A2.E⟩,X,d,rfl,⟨s,fun x e=>(i x e).1⟩,rfl,⟨Fc w0,Fc w1,Fc t,Fc u,fun E j=>?_⟩⟩;obtain⟨x,e,rfl⟩:=List.mem_map.1 j;exact(i x e).2
end
theorem Tryz.powName:ZI.globalNamed "internal/strconv.uint64pow10"=U 15:=by kernel_rfl
theorem Ak9{W:V}{rest:List (String × DataW Unit)}(h:laidMet ZI (("internal/strconv.uint64pow10",Lib.tabData .u64 Lib.pow10Tab)::rest) W):L9 W.heap.size W:=
 Lib.tabBelow_of_tabIs (Lib.tabIs_of_head powName rfl underlying356 underlying329 (by kernel_rfl) (by kernel_rfl) h)
end Go.Proofs.YtikehilbmldadaaGreatDoor
namespace Go.Proofs.YtikehilbmldadaaGreatDoor.scriptPlays
open Go.ChangeShapes Go.WideShapes Go.ChangeAt Go.RowKit
def plainL:List (String × DataW Unit):=Rows.scriptPlaysRow.laid.filter fun x=>x.2.handleName?.isNone
def numL:List (String × List UInt8):=[("strconv.ErrRange",[118,97,108,117,101,32,111,117,116,32,111,102,32,114,97,110,103,101]),("strconv.ErrSyntax",[105,110,118,97,108,105,100,32,115,121,110,116,97,120])]
theorem num_eq:plainL.filter (fun x=>decide (x.1∈ ["strconv.ErrRange","strconv.ErrSyntax"]))=(numL.map fun x=>(x.1,kV x.2)):=by kernel_rfl
theorem sent_eq:plainL.filter (fun x=>decide (x.1∈Ts.map (·.1)))=(Ts.map fun x=>(x.1,kV x.2)):=by kernel_rfl
theorem nm0:ZI.globalNamed "strconv.ErrRange"=U 14:=by kernel_rfl
theorem nm1:ZI.globalNamed "strconv.ErrSyntax"=U 13:=by kernel_rfl
theorem ty0:(ZI.globals[14]?).map (·.type)=U 25:=by kernel_rfl
theorem ty1:(ZI.globals[13]?).map (·.type)=U 25:=by kernel_rfl
theorem nums_of{W:V}(h:laidMet ZI (numL.map fun x=>(x.1,kV x.2)) W):(∃t p,W.cell? ⟨14,0,O⟩=U (.iface t p))/\∃t p,W.cell? ⟨13,0,O⟩=U (.iface t p):=by
 obtain⟨ps,f,d,a⟩:=h;obtain⟨bs,g,i,j,e⟩:=pV underlying25 rowE underlying372 underlying374 rfl rfl underlying9 cellsE cellsS numL [14,13] rfl (fun k h1 h2=>by
  match k,h1 with
  |0,_=>exact⟨nm0,ty0⟩
  |1,_=>exact⟨nm1,ty1⟩) ps f d a
 have h2:bs.length=2:=g;exact⟨⟨_,_,e 0 (by decide) (by decide) (by omega)⟩,⟨_,_,e 1 (by decide) (by decide) (by omega)⟩⟩
theorem laid_all{W:V}(h:laidMetH ZI Rows.scriptPlaysRow.laid W):∃sa,Ii W.heap.size sa W/\(∀k,k<11->W.cell? (sa k)=U (ZB (He (k+1))))/\U3 W.heap.size W/\L9 W.heap.size W:=by
 have a:laidMet ZI plainL W/\handlesMet ZI [("errors.errorType",Aeu)] W:=h;have e:=laidMet.filter (fun x=>decide (x.1∈Ts.map (·.1))) a.1;rw[sent_eq]at e;have h2:=laidMet.filter (fun x=>decide (x.1∈ ["strconv.ErrRange","strconv.ErrSyntax"])) a.1;rw[num_eq]at h2;obtain⟨sa,n,d⟩:=Afi e a.2;obtain⟨er,es⟩:=nums_of h2;have f:L9 W.heap.size W:=Ak9 (rest:=(plainL.drop 3)) (laidMet.tail (laidMet.tail (show laidMet ZI (("math/bits.deBruijn32tab",Rows.laid_math_bits_deBruijn32tab)::("math/bits.deBruijn64tab",Rows.laid_math_bits_deBruijn64tab)::("internal/strconv.uint64pow10",Lib.tabData .u64 Lib.pow10Tab)::plainL.drop 3) W from a.1)));have i:∀{g:Nat} {v:ZE},W.cell? ⟨g,0,O⟩=U v->g<W.heap.size:=fun m=>R3 _ ⟨_,0,O⟩ m;refine⟨sa,n,d,⟨f,es,er,?_⟩,f⟩;obtain⟨_,_,j⟩:=er;obtain⟨_,_,l⟩:=es;exact⟨i l,i j⟩
noncomputable def base0 (os:Os):V:=(World.holding ZI os ⟨#[],#[],[]⟩).setCell ⟨11,0,O⟩ (.iface 283 (.agg #[.pointer (U ⟨25,25,O⟩)]))
noncomputable def doorW (os:Os):V:=(base0 os).layVars ZI plainL
theorem doorW_os(os:Os):(doorW os).os=os:=World.layVars_os _ _ _
theorem plain_met(os:Os)(args:Array ZE):laidMet ZI plainL ((doorW os).forCall (fun _ _=>0) ⟨#[],args,[]⟩).memory:=by
 have a:(plainL.filter fun x=>(plainL.map (·.1)).contains x.1)=plainL:=List.filter_eq_self.2 fun x d=>List.contains_iff_mem.2 (List.mem_map.2 ⟨x,d,rfl⟩);have e:(plainL.filter fun x=>!(plainL.map (·.1)).contains x.1)= []:=List.filter_eq_nil_iff.2 fun x d=>by rw[List.contains_iff_mem.2 (List.mem_map.2 ⟨x,d,rfl⟩)];simp
 have h:laidMet ZI plainL (doorW os):=laidMet_layVars (w0:=base0 os) (plainL.map (·.1)) [] (by rw[a];rfl) (by rw[a];kernel_rfl) (by rw[a];kernel_rfl) (by rw[e];exact LaidIn.none);exact h.of_heap (by simp[World.memory,World.forCall,Input.heap])
theorem door_met(os:Os)(args:Array ZE):laidMetH ZI Rows.scriptPlaysRow.laid ((doorW os).forCall (fun _ _=>0) ⟨#[],args,[]⟩).memory:=
 laidMetH_of_parts (plain_met os args) (by kernel_rfl)
