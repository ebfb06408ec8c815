import Derived.Test.YtikehilbmldadaaGreatDoorP30
import Derived.Test.YtikehilbmldadaaGreatDoorPShelf
import Derived.Lib.AppendIntMem
import Derived.Deep.RegionHeld3
import Derived.Lib.AtoiAllCases
import Derived.Lib.AtoiErrMem
set_option maxHeartbeats 4000000
set_option maxRecDepth 100000
set_option linter.unusedVariables false
namespace Go.Proofs.YtikehilbmldadaaGreatDoor
open Proofs.Tryz YtikehilbmldadaaGreatDoor.Tryz RowKit
open Go renaming World->V,RowKit.Below->ZF,Calls->ZH,Value.int->I,IntKind.i64->J,Value.string->ZB,Obj.cells->ZC,Ending.returned->ZD,Value.iface->ZL,Value.tuple->ZM,Proofs.Tryz.prog->ZI
open Option renaming some->U,none->O
def L9(B:Nat)(w:V):Prop:=Lib.TabBelow ZI B w "internal/strconv.uint64pow10" .u64 Lib.pow10Tab
theorem L9.low{B C:Nat}{w w':V}(h:L9 B w)(b:ZF C w w')(hC:B<=C):L9 B w':=fun W hW=>h W ((b.mono hC).trans hW)
theorem Ac7(w:V)(k:Nat)(os:Array Obj):ZF w.heap.size w (Sort.grow (w.drewN k) os):=by
 refine⟨rfl,rfl,rfl,?_,fun i hi=>?_⟩
 ·show w.heap.size<=(w.heap++os).size
  rw[Array.size_append];omega
 ·show(w.heap++os)[i]? =w.heap[i]?
  rw[Array.getElem?_append_left hi]
theorem M4(B:Nat)(n:Int)(w:V)(a:L9 B w)(h0:-9223372036854775808<=n)(h1:n<=9223372036854775807):
  ZH ZI 100 #[I J n] w fun e w'=>e=ZD (ZB ⟨(Lib.itoa n).toArray⟩)/\ZF w.heap.size w w':=by
 refine(Tryz.strconv_Itoa n h0 h1 w (a w (R1 _ _))).mono ?_;rintro e w' ⟨rfl,k,os,rfl⟩;exact⟨rfl,Ac7 w k os⟩
inductive W1 where
 |str (s:ByteArray)
 |num (n:Int)
def Ch:W1->List UInt8
 |.str s=>s.data.toList
 |.num n=>Lib.itoa n
def Wx:W1->Value
 |.str s=>ZL 9 (ZB s)
 |.num n=>ZL 3 (I J n)
def Aef:W1->Prop
 |.str _=>True
 |.num n=>-9223372036854775808<=n/\n<=9223372036854775807
def Np(i:Nat)(x:W1):List UInt8:=if i=0 then Ch x else 32::Ch x
def upB(ws:List W1)(k:Nat):List UInt8:=(List.range k).flatMap (fun i=>Np i (ws.getD i (.num 0)))
def Br(ws:List W1):List UInt8:=upB ws ws.length++ [10]
theorem vD(a:List W1)(k:Nat)(d:k<a.length):upB a (k+1)=upB a k++Np k a[k]:=by
 unfold upB;rw[Zz4,B1];simp[d]
theorem Ahy(ws:List W1):∀(m k:Nat),(upB ws k).length<=(upB ws (k+m)).length
 |0,k=>Y2 _
 |m+1,k=>by
  refine No (Ahy ws m k) ?_
  show _<=(upB ws (k+m+1)).length
  unfold upB
  rw[Zz4,B1,R2]
  omega
theorem Mo(a:List W1){k:Nat}(d:k<=a.length):(upB a k).length<(Br a).length:=by
 have:=Ahy a (a.length-k) k;rw[show k+(a.length-k)=a.length by omega]at this;unfold Br;rw[R2,G3];omega
theorem Tryz.taStr(s:ByteArray)(W:V):(Instr.typeAssert (ZL 9 (ZB s)) 20 9 true).run ZI W=.ok (ZM #[ZB s,.bool true]) W:=by kernel_rfl
theorem Tryz.taIntS(n:Int)(W:V):(Instr.typeAssert (ZL 3 (I J n)) 20 9 true).run ZI W=.ok (ZM #[ZB ByteArray.empty,.bool false]) W:=by kernel_rfl
theorem Tryz.taInt(n:Int)(W:V):(Instr.typeAssert (ZL 3 (I J n)) 20 3 true).run ZI W=.ok (ZM #[I J n,.bool true]) W:=by kernel_rfl
structure PG (B b:Nat) (l:List UInt8) (w0 w:V):Prop where
 pg:Pg B b l w
 bel:ZF B w0 w
 oth:Oth b w0 w
theorem PG.on{B b:Nat}{l l':List UInt8}{w0 w w':V}(h:PG B b l w0 w)(p:Pg B b l' w')(b1:ZF B w w')(o:Oth b w w'):PG B b l' w0 w':=⟨p,h.bel.trans b1,h.oth.trans o⟩
theorem PG.below{B b:Nat}{l:List UInt8}{w0 w w':V}(h:PG B b l w0 w)(k:ZF w.heap.size w w'):PG B b l w0 w':=by
 have a:=h.pg.lt;exact⟨h.pg.below k,h.bel.trans (k.mono (by omega)),h.oth.trans (Oth.below k)⟩
theorem tS(a:Array Value):¬Aey (ZC a 20):=by
 show ¬(20=5)
 decide
theorem Ams{w:V}{a:Nat}{d:List W1}{T:TypeId}(h:w.heap[a]? =U (ZC (d.map Wx).toArray T))(k:Nat)(e:k<d.length):w.cell? ⟨a,k,O⟩=U (Wx d[k]):=by
 rw[cell_of_row w a k _ _ _ h];simp[e]
theorem Ua(B b:Nat)(l:List UInt8)(a:List W1)(wb:Nat)(w:V)(h:Pg B b l w)(N:B<=w.heap.size)(hT:L9 B w)(af:∀x∈a,Aef x)(hv:w.heap[wb]? =U (ZC (a.map Wx).toArray 20))(hne:wb≠b)(P:l.length+(Br a).length<=1000000)(hn:a.length<=1000):
  ZH ZI 58 #[.pointer (U ⟨b,0,O⟩),.slice (U ⟨wb,0,O⟩) a.length a.length] w fun e w'=>e=ZD (ZM #[])/\PG B b (l++Br a) w w':=by
 have HV:=G hv;have HT:=G hT;have aj:=G af;have o:=G P;have ad:PG B b (l++upB a 0) w w:=by
  rw[show upB a 0= [] from rfl,Zz8];exact⟨h,R1 _ _,Oth.refl _ _⟩
 have ac:=G ad;have ar:=taStr;have au:=taIntS;have av:=taInt;clear h hv hT af P ad;go_enter func58,ntmps58;go_wp2_with fail;go_loopw [10] (fun s wr=>∃k:Nat,k<=a.length/\s=I J k/\Hid (PG B b (l++upB a k) w wr)) (fun s _=>a.length-(intOf s).toNat);case atStart=>exact⟨0,In _,rfl,ac⟩
 case round=>
  obtain⟨k,hk,rfl,f⟩:=hrel;clear ac;by_cases t:k<a.length
  ·have q:=Ams (f.oth.block _ _ HV hne (tS _)) k t;have d:=G (vD a k t);have K:=G N;have M:=aj a[k] (M2 t);cases hw:a[k] with
   |str s=>
    rw[hw]at q d;unfold Wx at q;clear hw M;by_cases j:k=0
    ·have Y:¬(0:Int)<(k:Int):=by omega
     have C:Np k (.str s)=Ch (.str s):=if_pos j;rw[C]at d;clear j C;go_wp2_with fail;have i:=G (fun W (u:List UInt8) (f:Pg B b u W) (Z:u.length+s.size<=1000000000) (p:B<=W.heap.size)=>Jv B b u s W f Z p);refine(i _ _ f.pg (by have:=o.out;have:=Mo a (k:=k+1) t;rw[d.out]at this;have e:s.data.toList.length=s.size:=(by rw[C2];rfl);simp only[R2,Ch]at this ⊢;(try simp only[Zz7,Zyy]at this ⊢);omega) (No K f.bel.size)).mono ?_;rintro e w3 ⟨rfl,H,A,E⟩;have nx:=G (show PG B b (l++upB a (k+1)) w w3 from by
      have h3:=f.on H A E;rw[d.out];simpa [Ch,F6] using h3)
     clear H A E f;go_wp2_with fail;go_roundw;case rel=>exact⟨k+1,by omega,by go_num,nx⟩
     case measure=>simp[intOf];omega
    ·have Y:(0:Int)<(k:Int):=by omega
     have C:Np k (.str s)=32::Ch (.str s):=if_neg j;rw[C]at d;have m:=G (Nm B b _ 32 wr f.pg (by have:=o.out;have:=Mo a hk;rw[R2];omega) (No N f.bel.size));clear j C;go_wp2_with fail;refine m.mono ?_;rintro e w2 ⟨rfl,R,v,Q⟩;have g:=G (f.on R v Q);clear R v Q m;go_wp2_with fail;have i:=G (fun W (u:List UInt8) (f:Pg B b u W) (Z:u.length+s.size<=1000000000) (p:B<=W.heap.size)=>Jv B b u s W f Z p);refine(i _ _ g.pg (by have:=o.out;have:=Mo a (k:=k+1) t;rw[d.out]at this;have e:s.data.toList.length=s.size:=(by rw[C2];rfl);simp only[R2,Ch]at this ⊢;(try simp only[Zz7,Zyy]at this ⊢);omega) (No K g.bel.size)).mono ?_;rintro e w3 ⟨rfl,H,A,E⟩;have nx:=G (show PG B b (l++upB a (k+1)) w w3 from by
      have h3:=g.on H A E;rw[d.out];simpa [Ch,F6] using h3)
     clear H A E g;go_wp2_with fail;go_roundw;case rel=>exact⟨k+1,by omega,by go_num,nx⟩
     case measure=>simp[intOf];omega
   |num n=>
    rw[hw]at q d M;unfold Wx at q;have L:Hid (-9223372036854775808<=n/\n<=9223372036854775807):=M;clear hw M;by_cases j:k=0
    ·have Y:¬(0:Int)<(k:Int):=by omega
     have C:Np k (.num n)=Ch (.num n):=if_pos j;rw[C]at d;clear j C;have y:=G (fun W (N:ZF B w W)=>M4 B n W (HT.low N (Y2 _)) L.1 L.2);have i:=G (fun W (u:List UInt8) (f:Pg B b u W) (Z:u.length+(⟨(Lib.itoa n).toArray⟩:ByteArray).size<=1000000000) (p:B<=W.heap.size)=>Jv B b u ⟨(Lib.itoa n).toArray⟩ W f Z p);have D:=G (show((l++upB a k):List UInt8).length+(⟨(Lib.itoa n).toArray⟩:ByteArray).size<=1000000000 from by have:=o.out;have:=Mo a (k:=k+1) t;rw[d.out]at this;have e:(⟨(Lib.itoa n).toArray⟩:ByteArray).size=(Lib.itoa n).length:=(by simp[ByteArray.size]);rw[e];simp only[R2,Ch]at this ⊢;(try simp only[Zz7,Zyy]at this ⊢);omega);obtain⟨S,X⟩:∃S:ByteArray,S=⟨(Lib.itoa n).toArray⟩:=⟨_,rfl⟩
     rw[<-X]at y i D;have T:=G X;clear X;go_upto_region 11 with fail;go_region_held3 (fun w'=>True)
      (exact trivial)
      (first|(go_at_call 100;refine(y _ ?_).mono ?_;(repeat(first|exact f.bel|refine H5 ?_));rintro e wI ⟨rfl,v⟩;have g2:ZF wr.heap.size wr wI:=(by repeat(first|exact v|refine H5 ?_|refine Zyh ?_ v|exact R1 _ _)))|(go_at_call 99;refine(i _ (l++upB a k) ?_ D.out ?_).mono ?_;(repeat(first|exact(f.below g2).pg|refine Pg.below ?_ ((R1 _ _).drew)|exact No K (f.below g2).bel.size));rintro e w3 ⟨rfl,H,A,E⟩))
     all_goals
      have nx:=G (show PG B b (l++upB a (k+1)) w w3 from by
       have h3:=(f.below g2).on H A E;rw[d.out];rw[T.out]at h3;simpa [Ch,F6] using h3)
      clear H A E g2;go_wp2_with fail;go_roundw;case rel=>exact⟨k+1,by omega,by go_num,nx⟩
      case measure=>simp[intOf];omega
    ·have Y:(0:Int)<(k:Int):=by omega
     have C:Np k (.num n)=32::Ch (.num n):=if_neg j;rw[C]at d;have m:=G (Nm B b _ 32 wr f.pg (by have:=o.out;have:=Mo a hk;rw[R2];omega) (No N f.bel.size));clear j C;go_wp2_with fail;refine m.mono ?_;rintro e w2 ⟨rfl,R,v,Q⟩;have g:=G (f.on R v Q);clear R v Q m;have y:=G (fun W (N:ZF B w W)=>M4 B n W (HT.low N (Y2 _)) L.1 L.2);have i:=G (fun W (u:List UInt8) (f:Pg B b u W) (Z:u.length+(⟨(Lib.itoa n).toArray⟩:ByteArray).size<=1000000000) (p:B<=W.heap.size)=>Jv B b u ⟨(Lib.itoa n).toArray⟩ W f Z p);have D:=G (show((l++upB a k++ [32]):List UInt8).length+(⟨(Lib.itoa n).toArray⟩:ByteArray).size<=1000000000 from by have:=o.out;have:=Mo a (k:=k+1) t;rw[d.out]at this;have e:(⟨(Lib.itoa n).toArray⟩:ByteArray).size=(Lib.itoa n).length:=(by simp[ByteArray.size]);rw[e];simp only[R2,Ch]at this ⊢;(try simp only[Zz7,Zyy]at this ⊢);omega);obtain⟨S,X⟩:∃S:ByteArray,S=⟨(Lib.itoa n).toArray⟩:=⟨_,rfl⟩
     rw[<-X]at y i D;have T:=G X;clear X;go_upto_region 11 with fail;go_region_held3 (fun w'=>True)
      (exact trivial)
      (first|(go_at_call 100;refine(y _ ?_).mono ?_;(repeat(first|exact g.bel|refine H5 ?_));rintro e wI ⟨rfl,v⟩;have g2:ZF w2.heap.size w2 wI:=(by repeat(first|exact v|refine H5 ?_|refine Zyh ?_ v|exact R1 _ _)))|(go_at_call 99;refine(i _ (l++upB a k++ [32]) ?_ D.out ?_).mono ?_;(repeat(first|exact(g.below g2).pg|refine Pg.below ?_ ((R1 _ _).drew)|exact No K (g.below g2).bel.size));rintro e w3 ⟨rfl,H,A,E⟩))
     all_goals
      have nx:=G (show PG B b (l++upB a (k+1)) w w3 from by
       have h3:=(g.below g2).on H A E;rw[d.out];rw[T.out]at h3;simpa [Ch,F6] using h3)
      clear H A E g2;go_wp2_with fail;go_roundw;case rel=>exact⟨k+1,by omega,by go_num,nx⟩
      case measure=>simp[intOf];omega
  ·have ae:k=a.length:=by omega
   have m:=G (Nm B b _ 10 wr f.pg (by have:=o.out;have:=Mo a hk;rw[R2];omega) (No N f.bel.size));have ai:=G ae;clear ae;go_wp2_with fail;refine m.mono ?_;rintro e w2 ⟨rfl,R,v,Q⟩;have g:=G (f.on R v Q);clear R v Q m;go_wp2_with fail;go_end0;refine⟨rfl,?_⟩;have:=g.out;rw[ai.out,F6]at this;exact this
def Fx(s:ByteArray):Option Nat:=
 match Lib.atoiAll s.data.toList with
 |.ok v=>if s.size<=13/\0<=v/\Lib.itoa v=s.data.toList then U v.toNat else O
 |_=>O
structure U3 (B:Nat) (w:V):Prop where
 tab:L9 B w
 es:∃t p,w.cell? ⟨13,0,O⟩=U (ZL t p)
 er:∃t p,w.cell? ⟨14,0,O⟩=U (ZL t p)
 low:13<B/\14<B
theorem U3.below{B C:Nat}{w w':V}(h:U3 B w)(b:ZF C w w')(a:B<=C):U3 B w':=by
 obtain⟨t,p,h1⟩:=h.es;obtain⟨f,e,h2⟩:=h.er;have d:=h.low;exact⟨h.tab.low b a,⟨t,p,by rw[b.cell (p:=⟨13,0,O⟩) (show 13<C by omega)];exact h1⟩,⟨f,e,by rw[b.cell (p:=⟨14,0,O⟩) (show 14<C by omega)];exact h2⟩,d⟩
theorem Ab5(B:Nat)(s:ByteArray)(K:s.size<=100000)(w:V)(m:U3 B w)(q:B<=w.heap.size):
  ZH ZI 112 #[ZB s] w fun e w'=>∃n,e=ZD (ZM #[I J n,.bool (Fx s).isSome])/\(∀k,Fx s=U k->n=k)/\ZF w.heap.size w w':=by
 have HN:=G m;have HB:=G q;cases i:Lib.atoiAll s.data.toList;case ok v=>
  obtain⟨P,Q⟩:=Lib.atoiAll_bounds i;have j:=G (Tryz.strconv_Atoi_ok s (by omega) v i w);have f:=G (show Fx s=if s.size<=13/\0<=v/\Lib.itoa v=s.data.toList then U v.toNat else O from by unfold Fx;rw[i]);have o:=G (fun W (Z:ZF w.heap.size w W)=>M4 B v W ((m.below Z q).tab) P Q);clear i m P Q q K;go_enter func112,ntmps112;go_wp2_with fail;refine j.mono ?_;rintro e w1 ⟨rfl,R⟩;have a:ZF w.heap.size w w1:=by
   rcases R with rfl|⟨t,rfl⟩
   ·exact R1 _ _
   ·exact Lib.bytesWorld_below _ _ _
  clear R j;have S:=G (o w1 a);clear o;by_cases E:(s.size:Int)<=13
  ·by_cases h0:0<=v
   ·obtain⟨z,hz⟩:∃z,(Lib.itoa v==s.toList)=z:=⟨_,rfl⟩
    have X:=G hz;have D:=G (show s.size<=13 from by omega);have L:=G h0;have l:(Lib.itoa v=s.data.toList)↔z=true:=by
     rw[<-X.out,beq_iff_eq,Zz3]
    have M:=G l;clear l;have g:Hid (z=(Fx s).isSome):=G (by
     rw[f.out];cases z
     ·rw[if_neg (fun C=>by have:=M.1 C.2.2;cases this)];rfl
     ·rw[if_pos ⟨D.out,L.out,M.2 rfl⟩];rfl)
    have T:Hid (∀k,Fx s=U k->v=k):=G (by
     intro k d;rw[f.out]at d;split at d
     ·have:=Option.some.inj d;have:=L.out;omega
     ·cases d)
    go_wp2_with fail;refine S.mono ?_;rintro e w2 ⟨rfl,Y⟩;have H:=a.trans (Y.mono a.size);go_wp2_with fail;refine bodyPost_ret (results_tmp2 rfl _ _ _) rfl ?_;exact⟨_,by rw[<-g.out];rfl,T.out,H⟩
   ·have g:Hid (Fx s=O):=G (by rw[f.out,if_neg (fun C=>h0 C.2.1)]);clear f;go_wp2_with fail;refine bodyPost_ret (results_tmp2 rfl _ _ _) rfl ?_;exact⟨_,by rw[g.out];rfl,(fun k d=>by rw[g.out]at d;cases d),a⟩
  ·have g:Hid (Fx s=O):=G (by rw[f.out,if_neg (fun C=>E (by omega))]);clear f;go_wp2_with fail;refine bodyPost_ret (results_tmp2 rfl _ _ _) rfl ?_;exact⟨_,by rw[g.out];rfl,(fun k d=>by rw[g.out]at d;cases d),a⟩
 case range=>
  obtain⟨t,p,u⟩:=m.er;have g:Hid (Fx s=O):=G (by unfold Fx;rw[i]);have j:=G (Tryz.strconv_Atoi_range s (by omega) i (ZL t p) w u (.inr ⟨_,_,rfl⟩));clear i m u q K;go_enter func112,ntmps112;go_wp2_with fail;refine j.mono ?_;rintro e w1 ⟨N,rfl,_,_,a⟩;clear j;go_wp2_with fail;refine bodyPost_ret (results_tmp2 rfl _ _ _) rfl ?_;exact⟨_,by rw[g.out];rfl,(fun k d=>by rw[g.out]at d;cases d),a⟩
 all_goals
  obtain⟨t,p,y⟩:=m.es;have g:Hid (Fx s=O):=G (by unfold Fx;rw[i]);have j:=G (strconv_Atoi_bad s (by omega) (fun v A=>by rw[i]at A;cases A) (fun A=>by rw[i]at A;cases A) (ZL t p) w y (.inr ⟨_,_,rfl⟩));clear i m y q K;go_enter func112,ntmps112;go_wp2_with fail;refine j.mono ?_;rintro e w1 ⟨N,rfl,_,_,a⟩;clear j;go_wp2_with fail;refine bodyPost_ret (results_tmp2 rfl _ _ _) rfl ?_;exact⟨_,by rw[g.out];rfl,(fun k d=>by rw[g.out]at d;cases d),a⟩
def M5(c:UInt8):Bool:=decide (48<=c.toNat/\c.toNat<=57)
def dval(l:List UInt8):Nat:=l.foldl (fun a c=>a*10+(c.toNat-48)) 0
theorem Rv(l:List UInt8)(c:UInt8):dval (l++ [c])=dval l*10+(c.toNat-48):=by simp[dval]
theorem tF:∀(n:Nat) (l:List UInt8),l.length=n->(∀c∈l,M5 c=true)->dval l<10 ^ n
 |0,l,hl,_=>by obtain rfl:=H3 hl;simp[dval]
 |n+1,l,hl,h=>by
  have hne:l≠ []:=by intro e;rw[e]at hl;simp at hl
  have d:=Zzh hne
  have h1:=tF n l.dropLast (by rw[Zyg];omega) (fun c a=>h c (Zxv _ a))
  have h2:=h _ (List.getLast_mem hne)
  simp only[M5,decide_eq_true_eq]at h2
  rw[<-d,Rv,Zx9]
  omega
theorem tK(i:Nat)(h:i<10):(UInt8.ofNat (48+i)).toNat=48+i:=by
 rw[UInt8.toNat_ofNat'];omega
theorem Jr(u:Nat):∀c∈Lib.decDigits u,M5 c=true:=by
 induction u using Nat.strongRecOn with
 |ind u ih=>
  intro c a;rw[Lib.decDigits]at a;split at a
  ·next h=>
   obtain rfl:=List.mem_singleton.1 a;simp only[M5,decide_eq_true_eq,tK u h];omega
  ·next h=>
   rcases List.mem_append.1 a with a|a
   ·exact ih (u/10) (by omega) c a
   ·obtain rfl:=List.mem_singleton.1 a;simp only[M5,decide_eq_true_eq,tK (u%10) (by omega)];omega
theorem zE(u:Nat):dval (Lib.decDigits u)=u:=by
 induction u using Nat.strongRecOn with
 |ind u ih=>
  rw[Lib.decDigits];split
  ·next h=>simp[dval];rw[Zy4 (by omega)];omega
  ·next h=>
   rw[Rv,ih (u/10) (by omega),tK (u%10) (by omega)];omega
theorem Mi(u:Nat):Lib.decDigits u≠ []:=by
 rw[Lib.decDigits];split
 ·simp
 ·simp
theorem zT:∀(n:Nat) (l:List UInt8),l.length=n+1->(∀c∈l,M5 c=true)->(n=0\/l.head?≠U 48)->Lib.decDigits (dval l)=l
 |0,l,hl,h,_=>by
  match l,hl with
  |[c],_=>
   have h2:=h c (by simp)
   simp only[M5,decide_eq_true_eq]at h2
   have e:dval [c]=c.toNat-48:=by simp[dval]
   rw[e,Lib.decDigits_one (by omega)]
   congr 1
   rw[show 48+(c.toNat-48)=c.toNat by omega]
   exact UInt8.ofNat_toNat
 |n+1,l,hl,h,h0=>by
  have hne:l≠ []:=by intro e;rw[e]at hl;simp at hl
  have i:=Zzh hne
  have f:l.head?≠U 48:=by
   rcases h0 with h0|h0
   ·omega
   ·exact h0
  have d:l.dropLast.head? =l.head?:=by
   match l,hl with
   |a::b::t,_=>rfl
  have h1:=zT n l.dropLast (by rw[Zyg];omega) (fun c j=>h c (Zxv _ j)) (.inr (by rw[d];exact f));have h2:=h _ (List.getLast_mem hne);simp only[M5,decide_eq_true_eq]at h2;have g:dval l.dropLast≠0:=by
   intro e;rw[e]at h1;have:l.dropLast= [48]:=by rw[<-h1,Lib.decDigits_one (by decide)];rfl
   rw[this]at d;exact f d.symm
  conv=>rhs;rw[<-i]
  conv=>lhs;rw[<-i]
  rw[Rv,Lib.decDigits,dif_neg (by omega)];congr 1
  ·rw[show(dval l.dropLast*10+((l.getLast hne).toNat-48))/10=dval l.dropLast by omega,h1]
  ·congr 1;rw[show 48+(dval l.dropLast*10+((l.getLast hne).toNat-48))%10=(l.getLast hne).toNat by omega];exact UInt8.ofNat_toNat
theorem Yh(c:UInt8):∀(l:List UInt8) (a n:Nat),Lib.parseUint10 a l=.ok n->Lib.parseUint10 a (l++ [c])=Lib.parseUint10 n [c]
 |[],a,n,h=>by simp only[Lib.parseUint10]at h;injection h with h;rw[h];rfl
 |x::l,a,n,h=>by
  simp only[Lib.parseUint10,Zyl]at h ⊢
  split at h
  ·next hx=>
   rw[if_pos hx]
   split at h
   ·cases h
   ·next h1=>
    rw[if_neg h1]
    split at h
    ·cases h
    ·next h2=>
     rw[if_neg h2]
     exact Yh c l _ n h
  ·cases h
theorem pL:∀(n:Nat) (l:List UInt8),l.length=n->n<=13->(∀c∈l,M5 c=true)->Lib.parseUint10 0 l=.ok (dval l)
 |0,l,hl,_,_=>by obtain rfl:=H3 hl;rfl
 |n+1,l,hl,hn,h=>by
  have hne:l≠ []:=by intro e;rw[e]at hl;simp at hl
  have i:=Zzh hne
  have a:∀c∈l.dropLast,M5 c=true:=fun c d=>h c (Zxv _ d)
  have h1:=pL n l.dropLast (by rw[Zyg];omega) (by omega) a
  have h2:=h _ (List.getLast_mem hne)
  simp only[M5,decide_eq_true_eq]at h2
  have f:=tF n l.dropLast (by rw[Zyg];omega) a
  have j:10 ^ n<=10 ^ 12:=Zza (by decide) (by omega)
  have g:(10:Nat) ^ 12=1000000000000:=by decide
  rw[<-i,Yh _ _ _ _ h1,Rv]
  simp only[Lib.parseUint10]
  rw[if_pos h2,if_neg (by omega),if_neg (by omega)]
def qL(l:List UInt8):Bool:=decide (1<=l.length)&&decide (l.length<=13)&& !(decide (1<l.length)&&l.head? ==U 48)&&l.all M5
theorem Aak{l:List UInt8}(a:l.length<=13)(h1:1<=l.length)(h:∀c∈l,M5 c=true):Lib.atoiAll l=.ok (dval l:Int):=by
 match l,h1 with
 |c::r,_=>
  have h2:=h c (by simp);simp only[M5,decide_eq_true_eq]at h2;rw[Lib.atoiAll_plain c r (by omega) (by omega)];unfold Lib.parseMag;rw[if_neg (by simp),pL _ (c::r) rfl a h];have d:=tF _ (c::r) rfl h;have f:10 ^ (c::r).length<=10 ^ 13:=Zza (by decide) a;have e:(10:Nat) ^ 13=10000000000000:=by decide
  simp only[Lib.signless];rw[if_neg (by omega)]
theorem Ko(k:Nat):Lib.itoa (k:Int)=Lib.decDigits k:=by
 unfold Lib.itoa;rw[if_neg (by omega),Zzc]
theorem yA(k:Nat)(h:10<=k):(Lib.decDigits k).head?≠U 48:=by
 induction k using Nat.strongRecOn with
 |ind k ih=>
  rw[Lib.decDigits,dif_neg (by omega)];by_cases h2:10<=k/10
  ·have:=ih (k/10) (by omega) h2;rw[List.head?_append];cases a:(Lib.decDigits (k/10)).head? with
   |none=>exact absurd (List.head?_eq_none_iff.1 a) (Mi _)
   |some c=>rw[a]at this;simpa using this
  ·rw[Lib.decDigits_one (by omega)];intro e;have d:UInt8.ofNat (48+k/10)=48:=by simpa using e
   have:=congrArg UInt8.toNat d;rw[tK _ (by omega)]at this;have f:(48:UInt8).toNat=48:=rfl;omega
theorem Aeq(k:Nat)(h:1<(Lib.decDigits k).length):10<=k:=by
 rw[Lib.decDigits]at h;split at h
 ·simp at h
 ·omega
theorem Aiy(s:ByteArray):Fx s=if qL s.data.toList=true then U (dval s.data.toList) else O:=by
 have g:s.data.toList.length=s.size:=by rw[C2];rfl
 split
 ·next h=>
  unfold qL at h;simp only[Zyk,decide_eq_true_eq,List.all_eq_true,Bool.not_eq_true',Bool.and_eq_false_imp,Zzg]at h;obtain⟨⟨⟨h1,h2⟩,h3⟩,f⟩:=h;unfold Fx;rw[Aak h2 h1 f];have e:Lib.itoa (dval s.data.toList:Int)=s.data.toList:=by
   rw[Ko];refine zT (s.data.toList.length-1) _ (by omega) f ?_;by_cases d:1<s.data.toList.length
   ·exact .inr (h3 d)
   ·exact .inl (by omega)
  show(if s.size<=13/\0<=(dval s.data.toList:Int)/\Lib.itoa (dval s.data.toList:Int)=s.data.toList then U (dval s.data.toList:Int).toNat else O)=_
  rw[if_pos ⟨by omega,by omega,e⟩,Zzc]
 ·next h=>
  cases a:Fx s with
  |none=>rfl
  |some k=>
   exfalso;apply h;unfold Fx at a;split at a
   ·next v hv=>
    split at a
    ·next hc=>
     obtain⟨h1,h2,h3⟩:=hc;obtain⟨m,rfl⟩:∃m:Nat,v=m:=⟨v.toNat,(Zzu h2).symm⟩
     rw[Ko]at h3;unfold qL;simp only[Zyk,decide_eq_true_eq,List.all_eq_true,Bool.not_eq_true',Bool.and_eq_false_imp,Zzg];refine⟨⟨⟨?_,by omega⟩,fun d=>?_⟩,?_⟩
     ·rw[<-h3];exact List.length_pos_iff.2 (Mi m)
     ·rw[<-h3]at d ⊢;exact yA m (Aeq m d)
     ·rw[<-h3];exact Jr m
    ·cases a
   ·cases a
theorem M9{u k:Nat}(h:u<10 ^ k)(d:1<=k):(Lib.decDigits u).length<=k:=by
 induction k generalizing u with
 |zero=>omega
 |succ k ih=>
  rw[Lib.decDigits];split
  ·simp
  ·next hu=>
   have a:1<=k:=by
    cases k with
    |zero=>simp at h;omega
    |succ k=>omega
   have:=ih (u:=u/10) (by rw[Zx9]at h;omega) a;rw[R2,G3];omega
theorem Yj(k:Nat)(h:k<10000000000000):Fx ⟨(Lib.itoa (k:Int)).toArray⟩=U k:=by
 rw[Aiy,Ko];have f:=M9 (u:=k) (k:=13) (by have:(10:Nat) ^ 13=10000000000000:=(by decide);omega) (by decide);have h1:=List.length_pos_iff.2 (Mi k);have d:=Jr k;have a:qL (Lib.decDigits k)=true:=by
  unfold qL;simp only[Zyk,decide_eq_true_eq,List.all_eq_true,Bool.not_eq_true',Bool.and_eq_false_imp,Zzg];exact⟨⟨⟨h1,f⟩,fun e=>yA k (Aeq k e)⟩,d⟩
 show(if qL (Lib.decDigits k).toArray.toList=true then U (dval (Lib.decDigits k).toArray.toList) else O)=_
 rw[Zy9,if_pos a,zE]
def B6(l:List UInt8):ByteArray:=⟨l.toArray⟩
theorem vM(a b:List UInt8):B6 a++B6 b=B6 (a++b):=by
 apply Zx4;rw[Zzy];simp[B6]
theorem Cw(l:List UInt8):(B6 l).data.toList=l:=by simp[B6]
theorem Dx(l:List UInt8):(B6 l).size=l.length:=by simp[B6,ByteArray.size]
theorem Ald(s:ByteArray):B6 s.data.toList=s:=by simp[B6]
theorem Xz(w:V)(rb off cap:Nat)(l:List UInt8)(h:∀j (hj:j<l.length),w.cell? ⟨rb,off+j,O⟩=U (I .u8 (l[j].toNat:Int))):
  (convert 85 9 (.slice (U ⟨rb,off,O⟩) l.length cap)).run ZI w=.ok (ZB (B6 l)) w:=
 run_convert_bytes_back w 85 9 5 ⟨rb,off,O⟩ cap l underlying85 underlying5 underlying9 (fun j hj=>by rw[Dt];exact h j hj)
theorem Yc(n:Int)(w:V):ZH ZI 162 #[I J n] w fun e w'=>e=ZD (ZB (B6 [UInt8.ofNat (n%256).toNat]))/\ZF w.heap.size w w':=by
 obtain⟨x,a⟩:∃x,x=UInt8.ofNat (n%256).toNat:=⟨_,rfl⟩
 have m:n%256=(x.toNat:Int):=by
  rw[a,UInt8.toNat_ofNat',Zy4 (by omega)];omega
 have d:ZF w.heap.size w (w.alloc (ZC #[I .u8 (x.toNat:Int)] 5)):=(R1 _ _).alloc (Y2 _) _;have f:=Ab w (ZC #[I .u8 (x.toNat:Int)] 5);have i:(convert 85 9 (.slice (U ⟨w.heap.size,0,O⟩) 1 1)).run ZI (w.alloc (ZC #[I .u8 (x.toNat:Int)] 5))=.ok (ZB (B6 [x])) (w.alloc (ZC #[I .u8 (x.toNat:Int)] 5)):=Xz (w.alloc (ZC #[I .u8 (x.toNat:Int)] 5)) w.heap.size 0 1 [x] (fun j l=>by
  have:j=0:=by simpa using l
  subst this;unfold World.cell?;simp only[Zzt];rw[f];rfl)
 rw[<-a];have g:=G d;clear a d f;go_enter func162,ntmps162;go_wp2_with fail;go_ret;exact⟨rfl,g.out⟩
theorem Aki{u:Nat}(h:¬u<10):Lib.decDigits u=Lib.decDigits (u/10)++ [UInt8.ofNat (48+u%10)]:=by rw[Lib.decDigits,dif_neg h]
theorem Yd(k:Nat):∀(u:Nat) (w:V),u<10 ^ k->u<=9223372036854775807->1<=k->k<=20->ZH ZI 96 #[I J (-(u:Int))] w fun e w'=>e=ZD (ZB (B6 (Lib.decDigits u)))/\(Lib.decDigits u).length<=k/\ZF w.heap.size w w':=by
 induction k with
 |zero=>intro u w _ _ h;omega
 |succ k ih=>
  intro u w j R _ v;by_cases a:u<10
  ·have s:=G (Yc (48+(u:Int)) w);rw[show UInt8.ofNat ((48+(u:Int))%256).toNat=UInt8.ofNat (48+u)by congr 1;omega,<-Lib.decDigits_one a]at s;have l:Hid ((Lib.decDigits u).length<=k+1):=G (by rw[Lib.decDigits_one a];simp);have h1:-(10:Int)< -(u:Int):=by omega
   clear j a;go_enter func96,ntmps96;go_wp2_with fail;refine s.mono ?_;rintro e L ⟨rfl,i⟩;go_wp2_with fail;go_ret;exact⟨rfl,l.out,i⟩
  ·obtain⟨q,o⟩:∃q,q=u/10:=⟨_,rfl⟩
   obtain⟨r,B⟩:∃r,r=u%10:=⟨_,rfl⟩
   have m:1<=k:=by
    rcases Nat.eq_zero_or_pos k with h0|h0
    ·subst h0;simp at j;omega
    ·exact h0
   have f:q<10 ^ k:=by
    rw[Zx9]at j;rw[o];omega
   have D:=G (ih q w f (by omega) m (by omega));have p:Hid (∀W,ZH ZI 162 #[I J (48+(r:Int))] W fun e w'=>e=ZD (ZB (B6 [UInt8.ofNat (48+r)]))/\ZF W.heap.size W w'):=(show _ from fun W=>by
    have:=Yc (48+(r:Int)) W;rw[show UInt8.ofNat ((48+(r:Int))%256).toNat=UInt8.ofNat (48+r)by congr 1;omega]at this;exact this)
   have g:=G (Aki a);rw[<-o,<-B]at g;have h1:¬-(10:Int)< -(u:Int):=by omega
   have M:(-(u:Int)).tdiv 10= -(q:Int):=by rw[Int.neg_tdiv,Int.tdiv_eq_ediv_of_nonneg (by omega)];omega
   have N:(-(u:Int)).tmod 10= -(r:Int):=by rw[Int.neg_tmod,Zyw (by omega)];omega
   have C:(r:Int)<10:=by omega
   have P:wrap64 (-(q:Int))= -(q:Int):=Zy2 _ (by omega);have Q:wrap64 (-(r:Int))= -(r:Int):=Zy2 _ (by omega);obtain⟨d,t⟩:∃d,d=UInt8.ofNat (48+r):=⟨_,rfl⟩
   rw[<-t]at p g;have K:(B6 [d]).size=1:=by rw[Dx];rfl
   clear t j a o B f ih;go_enter func96,ntmps96;go_wp2_with fail;refine D.mono ?_;rintro e L ⟨rfl,y,i⟩;have l:=G y;obtain⟨n,H⟩:∃n,(B6 (Lib.decDigits q)).size=n:=⟨_,rfl⟩
   have A:n<=20:=by rw[<-H,Dx];omega
   clear y;go_wp2_with fail;refine(p _).mono ?_;rintro e S ⟨rfl,E⟩;go_wp2_with fail;go_ret;refine⟨by rw[vM,<-g.out];rfl,?_,i.trans (E.mono i.size)⟩;rw[g.out,R2];have:=l.out;simp only[G3];omega
theorem Yw(u:Nat):Lib.itoa (u:Int)=Lib.decDigits u:=Lib.itoa_nonneg u
theorem Dm(n:Int)(h0:0<=n)(h1:n<=1099511627776)(w:V):ZH ZI 56 #[I J n] w fun e w'=>e=ZD (ZB (B6 (Lib.itoa n)))/\ZF w.heap.size w w':=by
 obtain⟨u,rfl⟩:∃u:Nat,n=u:=⟨n.toNat,by omega⟩
 have a:u<10 ^ 13:=Zxs (show u<=1099511627776 by omega) (by decide);have d:=G (Yd 13 u w a (by omega) (by decide) (by decide));rw[Yw];have g:wrap64 (-(u:Int))= -(u:Int):=Zy2 _ (by omega);clear h1 a;go_enter func56,ntmps56;go_wp2_with fail;refine d.mono ?_;rintro e i ⟨rfl,-,f⟩;go_wp2_with fail;go_ret;exact⟨rfl,f⟩
