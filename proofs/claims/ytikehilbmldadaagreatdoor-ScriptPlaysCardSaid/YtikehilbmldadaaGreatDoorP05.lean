import Derived.Test.YtikehilbmldadaaGreatDoorP01
import Derived.Test.YtikehilbmldadaaGreatDoorP04
import Derived.Laws.BitsAllLaws
import Derived.Test.YtikehilbmldadaaGreatDoorP09
set_option maxHeartbeats 1000000
set_option maxRecDepth 100000
set_option linter.unusedVariables false
namespace Go.Proofs.YtikehilbmldadaaGreatDoor
open Proofs.Tryz YtikehilbmldadaaGreatDoor.Tryz RowKit
open Go renaming World->V,Value->ZE,RowKit.Below->ZF,Calls->ZH,Value.int->I,IntKind.i64->J,Value.slice->F,Value.pointer->ZA,Obj.cells->ZC,Ending.returned->ZD,Value.bool->ZK,Proofs.Tryz.prog->ZI
open Option renaming some->U,none->O
theorem vB{c:Nat}{b:UInt8}(h:c<4294967296):c ^^^ b.toNat<4294967296:=by
 refine Zx1 (n:=32) h ?_;have:=b.toNat_lt;omega
theorem Us(l:List UInt8)(k:Nat)(a:k<l.length)(c:Nat):Eo (l.take (k+1)) c=Ut (Eo (l.take k) c) l[k]:=by
 rw[If a,tM]
theorem Aei{c:Nat}(h:c<4294967296):4294967295 ^^^ c=4294967295-c:=by
 have e:=congrArg BitVec.toNat (BitVec.xor_allOnes (x:=BitVec.ofNat 32 c));rw[BitVec.toNat_xor,BitVec.toNat_not,BitVec.toNat_ofNat,BitVec.toNat_allOnes,Zy4 (show c<2 ^ 32 by omega),Nat.xor_comm]at e;exact e
theorem Al8{d:Nat}(h:d<4294967296):bits .xor .u32 ((d:Int)/2) (3988292384*bits .and .u32 (d:Int) 1%4294967296)=((Rb d:Nat):Int):=by
 rw[show(1:Int)=((1:Nat):Int)from rfl,u32_and_nat d 1 h (by decide),nat_mask1,show((d:Int)/2)=((d/2:Nat):Int)by omega];unfold Rb;by_cases e:d%2=1
 ·rw[if_pos e,e];exact u32_xor_nat (d/2) 3988292384 (by omega) (by decide)
 ·rw[if_neg e,show d%2=0 by omega];exact u32_xor_nat (d/2) 0 (by omega) (by decide)
theorem Alc(s:ByteArray)(w:V)(N:s.size<=100000):ZH ZI 262 #[.string s] w fun e w'=>e=ZD (I J (crc s.data.toList:Nat))/\w=w':=by
 have a:s.data.toList.length=s.size:=rfl;have HLEN:=G a;clear a;go_enter func262,ntmps262;go_wp2_with fail;go_loop [3,7] (fun m n=>∃k:Nat,k<=s.size/\m=I .u32 (Eo (s.data.toList.take k) 4294967295:Nat)/\n=I J k) (fun _ n=>s.size-(intOf n).toNat);case atStart=>exact⟨0,In _,rfl,rfl⟩
 case round=>
  obtain⟨k,M,rfl,rfl⟩:=hrel;have f:Eo (s.data.toList.take k) 4294967295<4294967296:=Tk (by decide);by_cases l:k<s.size
  ·have p:=G (Us s.data.toList k (by rw[HLEN.out];exact l) 4294967295);obtain⟨c,g⟩:∃c,c=Eo (s.data.toList.take k) 4294967295:=⟨_,rfl⟩
   rw[<-g]at f p ⊢;have D:=s[k].toNat_lt;have E:bits .xor .u32 (c:Int) ((s[k].toNat:Int)%4294967296)=((c ^^^ s[k].toNat:Nat):Int):=by
    rw[show(s[k].toNat:Int)%4294967296=(s[k].toNat:Int)by omega];exact u32_xor_nat c _ f (by omega)
   have q:c ^^^ s[k].toNat<4294967296:=vB f;have v:=G g;have H:=G f;have y:=G q;clear g f D q;go_wp2_with fail;go_loop [3,16] (fun m i=>∃j:Nat,j<=8/\m=I .u32 (I8 j (c ^^^ s[k].toNat):Nat)/\i=I J j) (fun _ i=>8-(intOf i).toNat);case atStart=>exact⟨0,In _,rfl,rfl⟩
   case round=>
    obtain⟨j,L,rfl,rfl⟩:=hrel;clear E;by_cases t:j<8
    ·have u:I8 j (c ^^^ s[k].toNat)<4294967296:=Zj y.out;have o:Hid (I8 (j+1) (c ^^^ s[k].toNat)=Rb (I8 j (c ^^^ s[k].toNat))):=(rfl:I8 (j+1) (c ^^^ s[k].toNat)=Rb (I8 j (c ^^^ s[k].toNat)))
     generalize I8 j (c ^^^ s[k].toNat)=d at u o ⊢;have B:=G (Al8 u);go_wp2_with fail;go_round;case rel=>exact⟨j+1,by omega,by rw[B.out,o.out],by go_num⟩
     case measure=>simp[intOf];omega
    ·have A:j=8:=by omega
     go_wp2_with fail;go_round;case rel=>exact⟨k+1,by omega,by rw[p.out,A];rfl,by go_num⟩
     case measure=>simp[intOf];omega
  ·have K:bits .xor .u32 IntKind.u32.max (Eo (s.data.toList.take k) 4294967295:Nat)=((4294967295-Eo (s.data.toList.take k) 4294967295:Nat):Int):=by
    rw[show IntKind.u32.max=((4294967295:Nat):Int)from rfl,u32_xor_nat _ _ (by decide) f,Aei f]
   have Q:IntKind.i64.wrap ((4294967295-Eo (s.data.toList.take k) 4294967295:Nat):Int)=((4294967295-Eo (s.data.toList.take k) 4294967295:Nat):Int):=Zz0 _ (by omega);have C:Hid (4294967295-Eo (s.data.toList.take k) 4294967295=crc s.data.toList):=G (by
    unfold crc;rw[Zy0 (by rw[HLEN.out];omega)])
   go_wp2_with fail;go_ret;exact⟨A6 (by rw[C.out];exact Zy2 ((crc s.data.toList:Nat):Int) (by have:=Ad4 s.data.toList;omega)),rfl⟩
theorem Zq:∀(i n:Nat),beB (i+1) n=UInt8.ofNat (n/256 ^ i)::beB i n
 |0,n=>by simp[beB]
 |i+1,n=>by
  rw[beB,Zq i (n/256),beB,Zyl,Nat.div_div_eq_div_mul,Zx9,Nat.mul_comm]
def numL(many n i:Nat):List UInt8:=List.replicate (many-i) 0++beB i n
theorem Qw{many n i:Nat}(h:i<=many):(numL many n i).length=many:=by simp[numL,Cz];omega
theorem Agb{many n i:Nat}(h:i<many):(numL many n i).set (many-1-i) (UInt8.ofNat (n/256 ^ i))=numL many n (i+1):=by
 unfold numL;rw[Zq,show many-i=(many-1-i)+1 by omega,List.replicate_succ',F6,List.set_append_right _ _ (by simp),show many-(i+1)=many-1-i by omega];simp
theorem Al6(n i:Nat):((n:Int)/2 ^ (8*i)%256)=((UInt8.ofNat (n/256 ^ i)).toNat:Int):=by
 rw[UInt8.toNat_ofNat',show(256:Nat) ^ i=2 ^ (8*i)by rw[Nat.pow_mul]];simp
theorem X5(n many:Nat)(A:many<=8)(B:n<9223372036854775808)(w:V):ZH ZI 261 #[I J n,I J many] w fun e w'=>e=ZD (.string (Aw (beB many n)))/\ZF w.heap.size w w':=by
 have y:=run_make_row' (P:=ZI) 85 5 (I .u8 0) 1 underlying85 Tryz.infoByte rfl J J many (by omega) (by omega);have q:=Gc.made w many 5;have p:ZF w.heap.size w (w.alloc (ZC (madeCells #[I .u8 0] many) 5)):=(R1 _ _).alloc (Y2 _) _;have l:=G q;have g:=G p;clear q p;go_enter func261,ntmps261;go_wp2_with fail;generalize w.alloc _=w1 at l g ⊢;go_loopw [10] (fun a wr=>∃i:Nat,i<=many/\a=I J i/\Hid (Gc wr w.heap.size (numL many n i))/\Hid (ZF w.heap.size w wr)) (fun a _=>many-(intOf a).toNat);case atStart=>exact⟨0,In _,rfl,(show Hid (Gc w1 w.heap.size (numL many n 0))from by unfold numL;rw[Nat.sub_zero,show beB 0 n= [] from rfl,Zz8];exact l),g⟩
 case round=>
  obtain⟨i,hi,rfl,f,d⟩:=hrel;clear l g;by_cases o:i<many
  ·have v:=Qw (n:=n) hi;obtain⟨s,D⟩:∃s,wr.cell? ⟨w.heap.size,many-1-i,O⟩=U s:=⟨_,f.cell (many-1-i) (by omega)⟩
   have C:=f.free;clear v;go_wp2_with fail;go_round;case rel=>
    rw[Al6];refine⟨i+1,by omega,by go_num,(show Hid _ from ?_),(show ZF _ _ _ from d.trans ((Af wr w.heap.size (many-1-i) _).below d.size (fun b d=>by omega)))⟩;have:=f.set (many-1-i) (UInt8.ofNat (n/256 ^ i)) (by rw[Qw hi];omega);rw[Agb o]at this;exact this
   case measure=>simp[intOf];omega
  ·have e:i=many:=by omega
   subst e;have m:=Hy wr w.heap.size 0 i (numL i n i) (fun j u=>by rw[Zzt];exact f.cell j u);rw[Qw (Y2 _)]at m;have t:Hid (numL i n i=beB i n):=G (by simp[numL]);go_wp2_with fail;go_ret;exact⟨by rw[t.out];rfl,d.out⟩
theorem Ya(l:List UInt8)(k:Nat)(a:k<l.length):Ez (l.take (k+1))=256*Ez (l.take k)+l[k].toNat:=by
 rw[If a,S7]
theorem Ac1(a b:Nat)(d:a<9223372036854775808)(e:b<9223372036854775808):bits .or J (a:Int) (b:Int)=((a|||b:Nat):Int):=by
 have f:a|||b<2 ^ 63:=Nat.or_lt_two_pow (by omega) (by omega)
 show IntKind.i64.wrap ((BitVec.ofInt 64 (a:Int)|||BitVec.ofInt 64 (b:Int)).toNat:Int)=_
 rw[BitVec.toNat_or,ofInt_u64 a (by omega),ofInt_u64 b (by omega)];exact Zz0 _ (by omega)
theorem Q3(a b:Nat)(d:a<9223372036854775808)(e:b<9223372036854775808):bits .xor J (a:Int) (b:Int)=((a ^^^ b:Nat):Int):=by
 have f:a ^^^ b<2 ^ 63:=Zx1 (by omega) (by omega);show IntKind.i64.wrap ((BitVec.ofInt 64 (a:Int) ^^^ BitVec.ofInt 64 (b:Int)).toNat:Int)=_
 rw[BitVec.toNat_xor,ofInt_u64 a (by omega),ofInt_u64 b (by omega)];exact Zz0 _ (by omega)
theorem Alo(c b:Nat)(d:c<1099511627776)(a:b<256):bits .or J ((c:Int)*256) (wrap64 (b:Int))=((256*c+b:Nat):Int):=by
 rw[show wrap64 (b:Int)=(b:Int)from Zy2 _ (by omega),show(c:Int)*256=((256*c:Nat):Int)by omega,Ac1 _ _ (by omega) (by omega),nat_join 8 _ _ (by omega) (by omega)]
theorem rT(s:ByteArray)(u:s.size<=6)(w:V):ZH ZI 226 #[.string s] w fun e w'=>e=ZD (I J (Ez s.data.toList:Nat))/\w=w':=by
 have a:s.data.toList.length=s.size:=rfl;have HLEN:=G a;clear a;go_enter func226,ntmps226;go_wp2_with fail;go_loop [3,7] (fun p j=>∃k:Nat,k<=s.size/\p=I J (Ez (s.data.toList.take k):Nat)/\j=I J k) (fun _ j=>s.size-(intOf j).toNat);case atStart=>exact⟨0,In _,rfl,rfl⟩
 case round=>
  obtain⟨k,t,rfl,rfl⟩:=hrel;by_cases i:k<s.size
  ·have l:=G (Ya s.data.toList k (by rw[HLEN.out];exact i));have m:=Gj (s.data.toList.take k);have f:(s.data.toList.take k).length<=5:=by simp;omega
   have d:Ez (s.data.toList.take k)<1099511627776:=F5 m (Zza (n:=256) (by decide) f);obtain⟨c,g⟩:∃c,c=Ez (s.data.toList.take k):=⟨_,rfl⟩
   rw[<-g]at d l ⊢;have q:=Alo c s[k].toNat d s[k].toNat_lt;clear m f g;go_wp2_with fail;go_round;case rel=>exact⟨k+1,by omega,by rw[l.out];rfl,by go_num⟩
   case measure=>simp[intOf];omega
  ·have o:Hid (Ez (s.data.toList.take k)=Ez s.data.toList):=G (by rw[Zy0 (by rw[HLEN.out];omega)]);go_wp2_with fail;go_ret;exact⟨A6 (by rw[o.out]),rfl⟩
structure Iy where
 g:Ix
 since:Int
 rep:Bool
def Fy(x:Iy):List ZE:=Cu x.g++ [I J x.since,ZK x.rep]
def gs0(g:Ix):Iy:=⟨g,0,false⟩
theorem Tryz.infoGs:(ZI.info? 251).map (fun i=>(i.zero,i.size,i.bytes))=U (U (.agg #[I J 0,I J 0,I J 0,I J 0,I J 0,ZK false]),6,48):=by kernel_rfl
def Hm(base:Nat)(ro:Option Nat)(w:V)(g:Nat)(L:List Iy)(bad:Bool):Prop:=
 ∃ao cap,w.heap[g]? =U (ZC #[F ao L.length cap,ZK bad] 249)/\w.ownsRow base 251 6 (F ao L.length cap) L.length (L.flatMap Fy)/\g<base/\(Value.slice ao L.length cap).ownBlock=ro
theorem Hm.lt{a:Nat}{e:Option Nat}{w:V}{g:Nat}{L:List Iy}{d:Bool}(h:Hm a e w g L d):g<w.heap.size/\g<a/\∀b,e=U b->a<=b/\b<w.heap.size:=by
 obtain⟨i,cap,h1,h2,h3,rfl⟩:=h;exact⟨Aa h1,h3,fun b f=>h2.lt b f⟩
theorem Hm.keep{S:Nat->Prop}{a:Nat}{e:Option Nat}{w w':V}{g:Nat}{L:List Iy}{d:Bool}(h:Hm a e w g L d)(j:Ac S w w')(i:∀b,b=g\/e=U b->¬S b):Hm a e w' g L d:=by
 obtain⟨l,cap,h1,h2,h3,f⟩:=h;exact⟨l,cap,j.get h1 (i g (.inl rfl)),Nr h2 j (fun b m=>i b (.inr (f▸m))),h3,f⟩
theorem Am5(x:Iy):∀u∈Fy x,u.oneCell'=true:=by
 intro u a;simp[Fy,Cu]at a;rcases a with rfl|rfl|rfl|rfl|rfl|rfl<;>rfl
theorem sV{w0 wc W w1:V}{a:List Ix}{k:Nat}{c0:ZE}{o:Option Nat}{a1:Option Addr}{k1:Nat}(g:k<a.length)(e:ZF w0.heap.size w0 wc)
  (q:wc.heap[w0.heap.size+1]? =U (ZC #[c0,ZK false] 249)) (m:Ac (fun _=>False) wc W) (p:W.grownBy w1 o) (s:∀b,o=U b->w0.heap.size+2<=b)
  (i:w1.ownsRow (w0.heap.size+2) 251 6 (F a1 (k+1) k1) (k+1) (((a.take k).map gs0).flatMap Fy++Fy (gs0 a[k]))):
  ZF w0.heap.size w0 (w1.setCell ⟨w0.heap.size+1,0,O⟩ (F a1 (k+1) k1))/\∃ro,Hm (w0.heap.size+2) ro (w1.setCell ⟨w0.heap.size+1,0,O⟩ (F a1 (k+1) k1)) (w0.heap.size+1) ((a.take (k+1)).map gs0) false:=by
 have j:Ac (fun b=>w0.heap.size+2<=b) wc w1:=Ac.step (S:=fun b=>w0.heap.size+2<=b) (m.mono (fun _ _ h=>h.elim)) (Ac.of_grown p) (fun b d _=>s b d.symm);have h1:=j.get q (by omega);have l:=Af w1 (w0.heap.size+1) 0 (F a1 (k+1) k1);refine⟨(e.trans (j.below e.size (fun b d=>by omega))).trans (l.below (No e.size j.size) (fun b d=>by omega)),_,a1,k1,?_,?_,by omega,rfl⟩
 ·rw[Ah _ h1];have f:((a.take (k+1)).map gs0).length=k+1:=by simp;omega
  rw[f];simp
 ·have f:((a.take (k+1)).map gs0).length=k+1:=by simp;omega
  have n:((a.take (k+1)).map gs0).flatMap Fy=((a.take k).map gs0).flatMap Fy++Fy (gs0 a[k]):=by
   rw[If g,B0,B1,Zz1,Zzk,Zz6,List.flatMap_nil,Zz8]
  rw[f,n];exact Ff i l (fun b d _=>by omega)
theorem yF(R:Nat->Prop)(nm vp ve vf vl:ZE)(tol cnt mn mx:Int)(a:List Ix)(ga:Option Addr)(y:Nat)(w:V)
  (h:Av R w (F ga a.length y) 4 (a.flatMap Cu) a.length) (hR:∀b,R b->b<w.heap.size) (hn:a.length<=100):
  ZH ZI 90 #[.agg #[nm,I J tol,vp,I J cnt,I J mn,I J mx,F ga a.length y,ve,vf,vl]] w fun e w'=>
   e=ZD (ZA (U ⟨w.heap.size+1,0,O⟩))/\(∃ro,Hm (w.heap.size+2) ro w' (w.heap.size+1) (a.map gs0) false)/\ZF w.heap.size w w':=by
 obtain⟨i0,hi,E,K,L⟩:=info_parts infoGs;have H:=G h;clear h;go_enter func90,ntmps90;go_wp2_with fail;go_loopw [11] (fun s wr=>∃k:Nat,k<=a.length/\s=I J k/\ZF w.heap.size w wr/\Hid (∃ro,Hm (w.heap.size+2) ro wr (w.heap.size+1) ((a.take k).map gs0) false)) (fun s _=>a.length-(intOf s).toNat);case atStart=>
  refine⟨0,In _,rfl,((R1 _ _).alloc (Y2 _) _).alloc (by simp) _,O,O,0,?_,Zzr _ _ _ _,by omega,rfl⟩;have:=Ab (w.alloc (ZC #[nm,I J tol,vp,I J cnt,I J mn,I J mx,F ga a.length y,ve,vf,vl] 50)) (ZC #[F O 0 0,ZK false] 249);rw[H7]at this;exact this
 case round=>
  obtain⟨k,hk,rfl,j,t⟩:=hrel;by_cases g:k<a.length
  ·obtain⟨gb,T,rfl,A,_,m⟩:=H.elem (f:=Cu) (fun _=>rfl) (by decide) (by omega);have M:=m k g 0 _ rfl;have Y:=m k g 1 _ rfl;have Z:=m k g 2 _ rfl;have q3:=m k g 3 _ rfl;rw[<-j.cell (hR gb A)]at M Y Z q3;rw[Zzw]at M;clear m;have af:=t.choose_spec.lt.1;go_upto_region 4 with fail;go_cut [5] (fun s N=>∃x,s=ZA (U ⟨x,0,O⟩)/\wr.heap.size<=x/\Hid (N.heap[x]? =U (ZC #[I J a[k].fr,I J a[k].dst,I J a[k].mn,I J a[k].mx] 126))/\ZF w.heap.size w N/\Hid (∃ro,Hm (w.heap.size+2) ro N (w.heap.size+1) ((a.take k).map gs0) false));case first=>
    go_wp2_with fail;go_meet;exact⟨_,rfl,Y2 _,Ab _ _,j.alloc j.size _,(let ⟨ro,hq⟩:=t.out;⟨ro,hq.keep ((Ac.refl (fun _=>False) _).alloc _) (fun _ _ h=>h)⟩)⟩
   case rest=>
   obtain⟨x,rfl,ag,p,B,C⟩:=hcut;clear M Y Z q3 t j;obtain⟨ro,ao,cap,i,l,_,_⟩:=C.out;have n:((a.take k).map gs0).length=k:=by simp;omega
   rw[n]at i l;obtain⟨S,g1,gf⟩:=Au i;have x0:wc.cell? ⟨x,0,O⟩=U (I J a[k].fr):=by have:=p.out;simp[World.cell?,this]
   have x1:wc.cell? ⟨x,1,O⟩=U (I J a[k].dst):=by have:=p.out;simp[World.cell?,this]
   have x2:wc.cell? ⟨x,2,O⟩=U (I J a[k].mn):=by have:=p.out;simp[World.cell?,this]
   have x3:wc.cell? ⟨x,3,O⟩=U (I J a[k].mx):=by have:=p.out;simp[World.cell?,this]
   have X:=Aa p.out;have v:=Aaf S;have q:=G l;have u:=G i;clear l i;go_upto_region 5 with fail;go_region_law (refine Jw rfl (.tmp 19) (.tmp 22) 247 rfl (w.heap.size+2) 251 i0 _ 6 48 underlying247 hi E K L rfl (by decide) _ k _ rfl (q.alloc _) ⟨wc.heap.size,0,O⟩ 1 1 (Fy (gs0 a[k])) rfl rfl (by exact A1 _ (Fy (gs0 a[k])) _) (by exact Am5 _) (by unfold maxLen;omega) (by omega) (by simp;omega) ?_;intro a1 k1 w1 o d;have Q:=Ag4 d (Bp _ u.out) (fun e=>by have:=(q.lt _ e).1;omega);obtain⟨d0,d1,df⟩:=Au Q);all_goals
    have st:=sV g B u ((Ac.refl (fun _=>False) wc).alloc _).drew d (fun b j=>(q.lt _ j).1) o;have ST:=G st;clear st o d Q d0 d1 df v S g1 gf x0 x1 x2 x3 q u;go_wp2_with fail;go_roundw;case rel=>exact⟨k+1,by omega,by go_num,ST.1,ST.2⟩
    case measure=>simp[intOf];omega
  ·go_wp2_with fail;go_ret;have D:k=a.length:=by omega
   refine⟨rfl,?_,j⟩;have:=t.out;rw[D,Zz2]at this;exact this
theorem Za{α β:Type}(f:α->List β)(sz:Nat)(hf:∀x,(f x).length=sz)(x':α)(j:Nat)(u:β)(hj:j<sz):∀(l:List α) (k:Nat) (hk:k<l.length),(f l[k]).set j u=f x'->(l.flatMap f).set (k*sz+j) u=(l.set k x').flatMap f
 |[],k,hk,_=>by simp at hk
 |x::l,0,_,h=>by
  rw[Zz6,List.set_append,if_pos (by rw[hf];omega),C1,Zz6]
  rw[Nat.zero_mul,Zzt]
  congr 1
 |x::l,k+1,hk,h=>by
  rw[Zz6,List.set_append,if_neg (by rw[hf,Zx6];omega),C3,Zz6,hf]
  rw[show(k+1)*sz+j-sz=k*sz+j from by rw[Zx6];omega]
  rw[Za f sz hf x' j u hj l k (by simpa using hk) (by simpa using h)]
def Jn(x:Iy)(point tick:Int):Bool:=decide (point=x.g.dst)&&(!x.rep||decide (tick-x.since<x.g.mn)||decide (x.g.mx<tick-x.since))
def It(x:Iy)(point tick:Int):Iy:=if point=x.g.fr then { x with since:=tick,rep:=true} else x
def Jg(L:List Iy)(point tick:Int)(k:Nat):List Iy:=(L.take k).map (It · point tick)++L.drop k
theorem yC(L:List Iy)(p t:Int):Jg L p t 0=L:=by simp[Jg]
theorem Ac6(L:List Iy)(p t:Int):Jg L p t L.length=L.map (It · p t):=by simp[Jg]
theorem Sf(L:List Iy)(p t:Int)(k:Nat)(hk:k<=L.length):(Jg L p t k).length=L.length:=by simp[Jg];omega
theorem Pu(L:List Iy)(p t:Int)(k:Nat)(a:k<L.length):(Jg L p t k)[k]'(by rw[Sf L p t k (by omega)];exact a)=L[k]:=by
 simp only[Jg];rw[Zys (by simp;omega)];simp[Nat.min_eq_left (Zyi a)]
theorem Wp(L:List Iy)(p t:Int)(k:Nat)(a:k<L.length):Jg L p t (k+1)=(Jg L p t k).set k (It L[k] p t):=by
 simp only[Jg];rw[If a,B0,List.set_append,if_neg (by simp;omega)];have d:(List.map (It · p t) (List.take k L)).length=k:=by simp;omega
 rw[d,Nat.sub_self,Zy3 a,C1];simp
theorem yD(L:List Iy)(p t:Int)(k:Nat)(a:k<L.length)(h:p≠L[k].g.fr):Jg L p t (k+1)=Jg L p t k:=by
 rw[Wp L p t k a,It,if_neg h];have:=Pu L p t k a;rw[<-this];simp
theorem yB{w:V}{d row n cap:Nat}{e:TypeId}{L:List Iy}(h:w.ownsRow d e 6 (F (U ⟨row,0,O⟩) n cap) n (L.flatMap Fy))(k:Nat)(i:k<L.length)(l:L.length=n):
  w.cell? ⟨row,k*6,O⟩=U (I J L[k].g.fr)/\w.cell? ⟨row,k*6+1,O⟩=U (I J L[k].g.dst)/\w.cell? ⟨row,k*6+2,O⟩=U (I J L[k].g.mn)/\w.cell? ⟨row,k*6+3,O⟩=U (I J L[k].g.mx)/\
  w.cell? ⟨row,k*6+4,O⟩=U (I J L[k].since)/\w.cell? ⟨row,k*6+5,O⟩=U (ZK L[k].rep)/\∀o,w.frozen? ⟨row,o,O⟩=false:=by
 have a:∀j,j<6->w.cell? ⟨row,k*6+j,O⟩=(Fy L[k])[j]? :=fun j f=>by
  rw[h.cellAt (k*6+j) (by omega)];exact Q8 Fy 6 (fun _=>rfl) L k i j f
 exact⟨a 0 (by decide),a 1 (by decide),a 2 (by decide),a 3 (by decide),a 4 (by decide),a 5 (by decide),fun o=>h.frozenAt o⟩
def Aap(L:List Iy):Prop:=∀x∈L,0<=x.since/\x.since<=1099511627776
theorem Aap.step{L:List Iy}(h:Aap L){p t:Int}(h0:0<=t)(h1:t<=1099511627776):Aap (L.map (It · p t)):=by
 intro x a;obtain⟨y,d,rfl⟩:=List.mem_map.1 a;have:=h y d;unfold It;split
 ·exact⟨h0,h1⟩
 ·exact this
def Lt(L:List Iy)(p t:Int)(k:Nat):Bool:=(L.take k).any (Jn · p t)
theorem gU(L:List Iy)(p t:Int)(k:Nat)(a:k<L.length):Lt L p t (k+1)=(Lt L p t k||Jn L[k] p t):=by
 unfold Lt;rw[If a,List.any_append];simp only[List.any_cons,List.any_nil,Bool.or_false]
theorem sT(L:List Iy)(p t:Int):Lt L p t L.length=L.any (Jn · p t):=by unfold Lt;rw[Zz2]
theorem yE{x:Iy}{p t:Int}(h:¬p=x.g.dst):Jn x p t=false:=by simp[Jn,h]
theorem Ag3{x:Iy}{p t:Int}(h:p=x.g.dst)(hr:x.rep=false):Jn x p t=true:=by simp[Jn,h,hr]
theorem Aj8{x:Iy}{p t:Int}(h:p=x.g.dst)(hr:t-x.since<x.g.mn):Jn x p t=true:=by simp[Jn,h,hr]
theorem Aj9{x:Iy}{p t:Int}(h:p=x.g.dst)(hr:x.g.mx<t-x.since):Jn x p t=true:=by simp[Jn,h,hr]
theorem Aj7{x:Iy}{p t:Int}(h:p=x.g.dst)(a:x.rep=true)(h1:x.g.mn<=t-x.since)(h2:t-x.since<=x.g.mx):Jn x p t=false:=by
 simp only[Jn,On h,a,N1 (show ¬t-x.since<x.g.mn by omega),N1 (show ¬x.g.mx<t-x.since by omega)];rfl
theorem gG{w:V}{a:Nat}{e:TypeId}{size:Nat}{v:ZE}{n:Nat}{d:List ZE}(q:Nat)(h:w.ownsRow a e size v n d):(w.drewN q).ownsRow a e size v n d:=
 Ff h (Ck q (Ac.refl (fun _=>False) w)) (fun _ _ _ h=>h)
theorem Alz{w:V}{a row cap:Nat}{e:TypeId}{L M:List Iy}{p t:Int}{k:Nat}(f:k<M.length)(d:k<L.length)(i:M[k]=L[k]'d)(j:p=(L[k]'d).g.fr)(h:w.ownsRow a e 6 (F (U ⟨row,0,O⟩) M.length cap) M.length (M.flatMap Fy)):
  ((w.setCell ⟨row,k*6+4,O⟩ (I J t)).setCell ⟨row,k*6+5,O⟩ (ZK true)).ownsRow a e 6 (F (U ⟨row,0,O⟩) M.length cap) M.length ((M.set k (It (L[k]'d) p t)).flatMap Fy):=by
 have s1:=(h.stored (k*6+4) (I J t)).1;rw[Za Fy 6 (fun _=>rfl) { M[k] with since:=t} 4 _ (by decide) M k f rfl]at s1;have s2:=(s1.stored (k*6+5) (ZK true)).1;rw[Za Fy 6 (fun _=>rfl) { M[k] with since:=t,rep:=true} 5 _ (by decide) _ k (by simpa using f) (by simp;rfl)]at s2;rw[List.set_set]at s2;rw[It,if_pos j,<-i];exact s2
theorem gV(d:Nat)(Q:Option Nat)(g:Nat)(L:List Iy)(u:Bool)(point tick:Int)(w:V)(h:Hm d Q w g L u)(h0:0<=tick)(h1:tick<=1099511627776)(hL:Aap L)(hn:L.length<=100):
  ZH ZI 93 #[ZA (U ⟨g,0,O⟩),I J point,I J tick] w fun e w'=>
   e=ZD (.tuple #[])/\Hm d Q w' g (L.map (It · point tick)) (u||L.any (Jn · point tick))/\Ac (fun b=>b=g\/Q=U b) w w':=by
 obtain⟨H,cap,A,y,v,N⟩:=h;obtain⟨T,g1,gf⟩:=Au A;have i:=G A;have j:=G y;clear A y;go_enter func93,ntmps93;go_wp2_with fail;clear T g1 gf;go_loopw [19] (fun s wr=>∃k:Nat,k<=L.length/\s=I J k/\Hid (wr.heap[g]? =U (ZC #[F H L.length cap,ZK (u||Lt L point tick k)] 249))/\
   Hid (wr.ownsRow d 251 6 (F H L.length cap) L.length ((Jg L point tick k).flatMap Fy))/\Ac (fun b=>b=g\/Q=U b) w wr) (fun s _=>L.length-(intOf s).toNat)
 case atStart=>exact⟨0,In _,rfl,by simpa [Lt] using i,by rw[yC];exact j,Ac.refl _ _⟩
 case round=>
  obtain⟨k,hk,rfl,A,y,a⟩:=hrel;clear i j;by_cases f:k<L.length
  ·obtain⟨row,rfl⟩:∃row,H=U ⟨row,0,O⟩:=by
    rcases y.2 with⟨hv,an⟩|⟨q,c,ai,hv,_⟩
    ·omega
    ·simp at hv;exact⟨q,hv.1⟩
   have ap:d<=row:=(y.lt row rfl).1;obtain⟨T,g1,gf⟩:=Au A.out;have X:=Sf L point tick k hk;obtain⟨c0,c1,c2,c3,S,D,cf⟩:=yB y k (by omega) X;rw[Pu L point tick k f]at c0 c1 c2 c3 S D;have aq:=hL L[k] (M2 _);have i:=G A.out;have j:=G y.out;clear A y;go_upto_region 5 with fail;go_cut [69] (fun s R=>s=ZK (Jn L[k] point tick)/\∃q,wr.drewN q=R);case first=>
    by_cases n:point=L[k].g.dst
    ·have B:(point==L[k].g.dst)=true:=beq_iff_eq.2 n;have C:=G n;clear n;cases l:L[k].rep
     ·rw[l]at D;go_quiet (fail);go_wp2_with fail;go_meet;exact⟨Bs (Ag3 C l).symm,_,rfl⟩
     ·rw[l]at D;by_cases hm:tick-L[k].since<L[k].g.mn
      ·go_quiet (fail);go_wp2_with fail;go_meet;exact⟨Bs (Aj8 C hm).symm,_,rfl⟩
      ·by_cases hx:L[k].g.mx<tick-L[k].since
       ·go_quiet (fail);go_wp2_with fail;go_meet;exact⟨Bs (Aj9 C hx).symm,_,rfl⟩
       ·go_quiet (fail);go_wp2_with fail;go_meet;exact⟨Bs (Aj7 C l (by omega) (by omega)).symm,_,rfl⟩
    ·have B:(point==L[k].g.dst)=false:=by simp[n]
     go_quiet (fail);go_wp2_with fail;go_meet;exact⟨Bs (yE n).symm,_,rfl⟩
   case rest=>
   obtain⟨rfl,q,rfl⟩:=hcut;clear T g1 gf c0 c1 c2 c3 S D cf;replace i:=G (Kb q i.out);replace j:=G (gG q j.out);replace a:=Ck q a;generalize wr.drewN q=w2 at i j a ⊢;go_upto_if 69 with fail;go_cut [] (fun R=>Hid (R.heap[g]? =U (ZC #[F (U ⟨row,0,O⟩) L.length cap,ZK (u||Lt L point tick (k+1))] 249))/\
    Hid (R.ownsRow d 251 6 (F (U ⟨row,0,O⟩) L.length cap) L.length ((Jg L point tick k).flatMap Fy))/\Ac (fun b=>b=g\/Q=U b) w R)
   case first=>
    have m:=gU L point tick k f;cases v:Jn L[k] point tick
    ·rw[v,Bool.or_false]at m;rw[<-m]at i;clear m;go_wp2_with fail;go_meet;exact⟨i,j,a⟩
    ·rw[v,Bool.or_true]at m;obtain⟨T,g1,gf⟩:=Au i.out;have n1:=Ah (o:=1) (ZK true) i.out;have n2:=Af w2 g 1 (ZK true);have Y:=G n1;have E:=G n2;have Z:=G m;clear n1 n2 m;go_wp2_with fail;go_meet;refine⟨?_,Nr j E (fun b K ak=>by have:=(j.lt b K).1;omega),a.step E (fun b K _=>.inl K)⟩;rw[Z.out,Bool.or_true];exact Y.out
   case rest=>
   clear i j a;obtain⟨i,j,a⟩:=hcut;obtain⟨c0,c1,c2,c3,S,D,cf⟩:=yB j k (by omega) X;rw[Pu L point tick k f]at c0 S D;by_cases n:point=L[k].g.fr
   ·have B:(point==L[k].g.fr)=true:=beq_iff_eq.2 n;have C:=G n;clear n;go_wp2_with fail;go_roundw;case rel=>
     have k1:=Af wc row (k*6+4) (I J tick);have k2:=Fo k1 (k*6+5) (ZK true);refine⟨k+1,by omega,by go_num,k2.get i (by omega),?_,a.step k2 (fun b K _=>.inr (by rw[K,<-N];rfl))⟩;have hs:=Alz (t:=tick) (M:=Jg L point tick k) (L:=L) (p:=point) (k:=k) (by omega) f (Pu L point tick k f) C (by rw[X];exact j.out);rw[X,<-Wp L point tick k f]at hs;exact hs
    case measure=>simp[intOf];omega
   ·have B:(point==L[k].g.fr)=false:=by simp[n]
    go_wp2_with fail;go_roundw;case rel=>exact⟨k+1,by omega,by go_num,i,by rw[yD L point tick k f n];exact j,a⟩
    case measure=>simp[intOf];omega
  ·have ac:k=L.length:=by omega
   subst ac;go_wp2_with fail;go_end0;refine⟨rfl,⟨H,cap,?_,?_,v,(by rw[<-N];cases H<;>rfl)⟩,a⟩
   ·have:=A.out;rw[sT]at this;rw[Fn];exact this
   ·have:=y.out;rw[Ac6]at this;rw[Fn];exact this
theorem Y3(d:Nat)(i:Option Nat)(g:Nat)(L:List Iy)(f:Bool)(point tick:Int)(w:V)(h:Hm d i w g L f)(h0:0<=tick)(h1:tick<=1099511627776)(j:Aap L)(l:L.length<=100):
  ZH ZI 93 #[ZA (U ⟨g,0,O⟩),I J point,I J tick] w fun e w'=>
   e=ZD (.tuple #[])/\Hm d i w' g (L.map (It · point tick)) (f||L.any (Jn · point tick))/\Ac (fun b=>b=g\/i=U b) w w'/\Aap (L.map (It · point tick))/\(L.map (It · point tick)).length<=100:=
 (gV d i g L f point tick w h h0 h1 j l).mono fun _ _ ⟨a,b,c⟩=>⟨a,b,c,j.step h0 h1,by rw[Fn];exact l⟩
theorem yG(a:Nat)(f:Option Nat)(g:Nat)(L:List Iy)(d:Bool)(w:V)(h:Hm a f w g L d):
  ZH ZI 237 #[ZA (U ⟨g,0,O⟩)] w fun e w'=>e=ZD (ZK (!d))/\Hm a f w' g L false/\Ac (fun b=>b=g\/f=U b) w w':=by
 obtain⟨s,cap,l,n,m,p⟩:=h;obtain⟨u,g1,gf⟩:=Au l;have n1:=Ah (o:=1) (ZK false) l;have q:=Af w g 1 (ZK false);have fin:Hm a f (w.setCell ⟨g,1,O⟩ (ZK false)) g L false/\Ac (fun b=>b=g\/f=U b) w (w.setCell ⟨g,1,O⟩ (ZK false)):=
  ⟨⟨s,cap,n1,Nr n q (fun b j t=>by have:=(n.lt b j).1;omega),m,p⟩,q.mono (fun b _ j=>.inl j)⟩
 have i:=G fin;clear fin n1 q l n;go_enter func237,ntmps237;go_wp2_with fail;go_ret;exact⟨by cases d<;>rfl,i.out⟩
def Amq{α:Type}(ZN:List α)(f:α->Nat):Nat:=(ZN.map f).sum
def places(P:Nat):List Int:=(List.range (P+1)).map (fun(i:Nat)=>(i:Int)-1)
section
variable (may:Int->Int->Bool) (thn:Int->Int) (P:Nat)
def leads(k:Nat)(a s:Int):Nat:=Amq (List.range k) (fun p=>if may a p=true/\thn p=s then 1 else 0)
def ways:Nat->Int->Nat
 |0,s=>if s= -1 then 1 else 0
 |n+1,s=>Amq (places P) (fun a=>ways n a*leads may thn P a s)
def part(n:Nat)(left:Int->Bool)(s:Int):Nat:=Amq (places P) (fun a=>if left a=true then 0 else ways may thn P n a*leads may thn P a s)
