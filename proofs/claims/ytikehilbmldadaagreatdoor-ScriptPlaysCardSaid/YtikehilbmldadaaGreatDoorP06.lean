import Derived.Test.YtikehilbmldadaaGreatDoorP05
import Derived.Deep.RegionHeld3
set_option maxHeartbeats 2000000
set_option maxRecDepth 20000
set_option linter.unusedVariables false
namespace Go.Proofs.YtikehilbmldadaaGreatDoor
open Proofs.Tryz YtikehilbmldadaaGreatDoor.Tryz RowKit
open Go renaming World->V,Calls->ZH,Value.int->I,IntKind.i64->J,Value.string->ZB,Ending.returned->ZD
open Option renaming some->U,none->O
theorem Iz(a b:List UInt8):Aw a++Aw b=Aw (a++b):=by
 apply Zx4;rw[Zzy];simp[Aw]
theorem Ik(l:List UInt8):(Aw l).data.toList=l:=by simp[Aw]
theorem Bz(l:List UInt8):(Aw l).size=l.length:=by simp[Aw,ByteArray.size]
def Aq(r:Ap):Value:=.agg #[I J r.seq,I J r.ent,I J r.kind,I J r.tick]
def D7(r:Ap):Obj:=.cells #[I J r.seq,I J r.ent,I J r.kind,I J r.tick] 147
structure qU (r:Ap):Prop where
 s:r.seq<9223372036854775808
 e:r.ent<9223372036854775808
 k:r.kind<9223372036854775808
 t:r.tick<9223372036854775808
theorem Kv.sm{r:Ap}(h:Kv r):qU r:=⟨by have:=h.s2;omega,by have:=h.e;omega,by have:=h.k;omega,by have:=h.t;omega⟩
structure BK (r:Ap) (b:Nat) (w0 w:V):Prop where
 box:w.heap[b]? =U (D7 r)
 bel:Below w0.heap.size w0 w
 lo:w0.heap.size<=b
theorem BK.below{r:Ap}{b:Nat}{w0 w w':V}(h:BK r b w0 w)(k:Below w.heap.size w w'):BK r b w0 w':=⟨Ae k h.box (Aa h.box),h.bel.trans (k.mono h.bel.size),h.lo⟩
theorem BK.drew{r:Ap}{b:Nat}{w0 w:V}(h:BK r b w0 w):BK r b w0 w.drew:=⟨h.box,h.bel.drew,h.lo⟩
theorem BK.cells{r:Ap}{b:Nat}{w0 w:V}(h:BK r b w0 w):w.cell? ⟨b,0,O⟩=U (I J r.seq)/\w.cell? ⟨b,1,O⟩=U (I J r.ent)/\w.cell? ⟨b,2,O⟩=U (I J r.kind)/\w.cell? ⟨b,3,O⟩=U (I J r.tick):=
 Ay h.box
theorem Zp(r:Ap)(h:qU r)(w:V):ZH Tryz.prog 227 #[Aq r] w fun e w'=>e=ZD (ZB (Aw (A0 r)))/\Below w.heap.size w w':=by
 obtain⟨h1,h2,h3,q⟩:=h;have f:∀(n many:Nat) (m:Int) (W:V),n<9223372036854775808->many<=8->m=many->BK r w.heap.size w W->ZH Tryz.prog 261 #[I J n,I J m] W fun e w'=>e=ZD (ZB (Aw (beB many n)))/\BK r w.heap.size w w':=by
  intro n many m W u t e s;subst e;refine(X5 n many t u W).mono ?_;rintro e w1 ⟨rfl,b⟩;exact⟨rfl,s.below b⟩
 have a:=G f;have k0:BK r w.heap.size w (w.alloc (D7 r)):=⟨Ab _ _,(R1 _ _).alloc (Y2 _) _,Y2 _⟩
 have d:=G k0;unfold D7 at d;clear k0 f;unfold Aq;go_enter func227,ntmps227;go_wp2_with fail;generalize w.alloc _=w0 at d ⊢;have z1:(Aw (beB 4 r.seq)).size=4:=by rw[Bz,Cz]
 have z2:(Aw (beB 1 r.ent)).size=1:=by rw[Bz,Cz]
 have C:(Aw (beB 1 r.kind)).size=1:=by rw[Bz,Cz]
 have D:(Aw (beB 6 r.tick)).size=6:=by rw[Bz,Cz]
 go_cut [3] (fun A B=>A=ZB (Aw (Cg r))/\BK r w.heap.size w B);case first=>
  go_region_held3 (fun w'=>w'.cell? ⟨w.heap.size,0,O⟩=U (I J r.seq)/\w'.cell? ⟨w.heap.size,1,O⟩=U (I J r.ent)/\w'.cell? ⟨w.heap.size,2,O⟩=U (I J r.kind)/\w'.cell? ⟨w.heap.size,3,O⟩=U (I J r.tick))
   (first|exact d.cells|exact k1.cells|exact i.cells|exact j.cells|exact l.cells)
   (first|(go_at_call_of 261 (Value.int J r.seq);refine(a r.seq 4 4 _ h1 (by decide) rfl ?_).mono ?_;(repeat(first|exact d.out|refine BK.drew ?_));rintro e w1 ⟨rfl,k1⟩)|(go_at_call_of 261 (Value.int J r.ent);refine(a r.ent 1 1 _ h2 (by decide) rfl ?_).mono ?_;(repeat(first|exact k1|refine BK.drew ?_));rintro e H ⟨rfl,i⟩)|(go_at_call_of 261 (Value.int J r.kind);refine(a r.kind 1 1 _ h3 (by decide) rfl ?_).mono ?_;(repeat(first|exact i|refine BK.drew ?_));rintro e K ⟨rfl,j⟩)|(go_at_call_of 261 (Value.int J r.tick);refine(a r.tick 6 6 _ q (by decide) rfl ?_).mono ?_;(repeat(first|exact j|refine BK.drew ?_));rintro e L ⟨rfl,l⟩))
  all_goals(go_wp2_with fail;go_meet)
  all_goals(refine⟨?_,by repeat(first|exact l|refine BK.drew ?_)⟩;simp only[Iz,Cg])
 case rest=>
 obtain⟨rfl,g⟩:=hcut;have p:=G g;have v:(Aw (Cg r)).size<=100000:=by rw[Bz,Ip];decide
 have o:Hid (Aw (Cg r)++Aw (beB 4 (crc (Cg r)))=Aw (A0 r)):=G (Iz _ _);have E:=Ad4 (Cg r);have N:(Aw (Cg r)).size=12:=by rw[Bz,Ip]
 have P:(Aw (beB 4 (crc (Cg r)))).size=4:=by rw[Bz,Cz]
 clear g d z1 z2 C D;go_wp2_with fail;refine(Alc _ _ v).mono ?_;rintro e w' ⟨rfl,rfl⟩;rw[Ik];go_wp2_with fail;refine(a _ 4 4 _ (by omega) (by decide) rfl p.out).mono ?_;rintro e M ⟨rfl,y⟩;go_wp2_with fail;go_ret;exact⟨by rw[<-o.out];rfl,y.bel⟩
theorem yQ(s:ByteArray)(a b:Nat):(s.extract a b).data.toList=(s.data.toList.drop a).take (b-a):=by
 rw[Zyj,Zye]
theorem yP(s:ByteArray)(a b:Nat)(h:b<=s.size):(s.extract a b).size=b-a:=by
 rw[ByteArray.size_extract];omega
theorem Aj3(w:V)(r:Ap):BK r (w.heap.size+1) w ((w.alloc (D7 ⟨0,0,0,0⟩)).alloc (D7 r)).drew/\((w.alloc (D7 ⟨0,0,0,0⟩)).alloc (D7 r)).drew.heap[w.heap.size]? =U (D7 ⟨0,0,0,0⟩):=by
 have n1:=Ab (w.alloc (D7 ⟨0,0,0,0⟩)) (D7 r);rw[H7]at n1;exact⟨⟨n1,(((R1 _ _).alloc (Y2 _) _).alloc (by simp) _).drew,by omega⟩,Bp _ (Ab _ _)⟩
def Tx(o:Option Ap):Ap:=o.getD ⟨0,0,0,0⟩
theorem Aj4(k:Nat)(hk:k<9)(s:ByteArray)(hs:s.size=17)(w:V):ZH Tryz.prog 184 #[I J k,ZB s] w fun e w'=>e=ZD (Aq (Tx (Do k s.data.toList)))/\Below w.heap.size w w':=by
 have H:s.data.toList.length=17:=hs;have HL:=G H;have i:∀(a b:Nat) (n:Nat) (W:V),b<=17->b<=a+6->Ez ((s.data.toList.drop a).take (b-a))=n->ZH Tryz.prog 226 #[ZB (s.extract a b)] W fun e w'=>e=ZD (I J n)/\W=w':=by
  intro a b n W h1 h2 h3;have:=rT (s.extract a b) (by rw[yP _ _ _ (by omega)];omega) W;rw[yQ,h3]at this;exact this
 obtain⟨r,q⟩:∃r,r=Nf s.data.toList:=⟨_,rfl⟩
 have hm:r.seq<4294967296/\qU r:=by
  have h1:=Gj (s.data.toList.take 4);have h2:=Gj ((s.data.toList.drop 4).take 1);have h3:=Gj ((s.data.toList.drop 5).take 1);have h4:=Gj ((s.data.toList.drop 6).take 6);simp only[By,B2,H]at h1 h2 h3 h4;subst q;exact⟨h1,Zx0 h1 (by decide),Zx0 h2 (by decide),Zx0 h3 (by decide),Zx0 h4 (by decide)⟩
 have r1:=fun W=>i 0 4 r.seq W (by decide) (by decide) (by rw[q];rfl);have r2:=fun W=>i 4 5 r.ent W (by decide) (by decide) (by rw[q];rfl);have r3:=fun W=>i 5 6 r.kind W (by decide) (by decide) (by rw[q];rfl);have r4:=fun W=>i 6 12 r.tick W (by decide) (by decide) (by rw[q];rfl);have S:=G r1;have T:=G r2;have X:=G r3;have Y:=G r4;have R:=G q;clear r1 r2 r3 r4 i q H;go_enter func184,ntmps184;go_wp2_with fail;go_cut [5] (fun s5 wx=>s5=.pointer (U ⟨w.heap.size+1,0,O⟩)/\BK r (w.heap.size+1) w wx/\wx.heap[w.heap.size]? =U (D7 ⟨0,0,0,0⟩));case first=>
  go_region_held3 (fun _=>True) (exact trivial)
   (first|(go_at_call_of 226 (Value.string (s.extract 0 4));refine(S _).mono ?_;rintro e w1 ⟨rfl,rfl⟩)|(go_at_call_of 226 (Value.string (s.extract 4 5));refine(T _).mono ?_;rintro e w1 ⟨rfl,rfl⟩)|(go_at_call_of 226 (Value.string (s.extract 5 6));refine(X _).mono ?_;rintro e w1 ⟨rfl,rfl⟩)|(go_at_call_of 226 (Value.string (s.extract 6 12));refine(Y _).mono ?_;rintro e w1 ⟨rfl,rfl⟩))
  all_goals(go_wp2_with fail;go_meet)
  all_goals exact⟨rfl,Aj3 w r⟩
 case rest=>
 obtain⟨rfl,m,y⟩:=hcut;obtain⟨al,u⟩:=hm;have t:=G m;have A:=G y;obtain⟨c0,c1,Z,c3⟩:=m.cells;obtain⟨B,z1,z2,C⟩:=Ay y;have zf:∀o,wc.frozen? ⟨w.heap.size,o,O⟩=false:=by intro o;unfold D7 at y;simp[World.frozen?,y]
 have Q:=G u;clear m y S T X Y u;have d:¬(1<=r.seq/\(r.seq-1)%9=k/\A0 r++ [165]=s.data.toList)->Tx (Do k s.data.toList)=⟨0,0,0,0⟩:=fun h=>by
  unfold Do;rw[<-R.out,if_neg h];rfl
 by_cases h1:r.seq<1
 ·have l:=G (d (by omega));have hd:decide ((r.seq:Int)<1)=true:=On (by omega);clear d;go_wp2_with fail;refine bodyPost_ret (v:=Aq ⟨0,0,0,0⟩) (by simp[Aq,results,results184,go_sem,B,z1,z2,C,O2,O1]) rfl ?_;exact⟨by rw[l.out],(((t.bel.setCell (p:=⟨w.heap.size,0,O⟩) (Y2 _) _).setCell (p:=⟨w.heap.size,1,O⟩) (Y2 _) _).setCell (p:=⟨w.heap.size,2,O⟩) (Y2 _) _).setCell (p:=⟨w.heap.size,3,O⟩) (Y2 _) _⟩
 have hd:decide ((r.seq:Int)<1)=false:=N1 (by omega);have am:(1:Int)<=r.seq:=by omega
 by_cases h2:(r.seq-1)%9=k
 ·have E:(((r.seq:Int)-1)%9 != (k:Int))=false:=by simp;omega
  have ai:(Aw (A0 r)).size=16:=by rw[Bz,B7]
  have g:((Aw (A0 r)++⟨#[165]⟩).toList=s.toList)↔A0 r++ [165]=s.data.toList:=by
   rw[Zz3,Zz3,Zzy,Zzq,Ik]
  by_cases h3:A0 r++ [165]=s.data.toList
  ·have ht:((Aw (A0 r)++⟨#[165]⟩).toList==s.toList)=true:=by simp[g,h3]
   have l:Hid (Tx (Do k s.data.toList)=r):=G (by
    unfold Do;rw[<-R.out,if_pos ⟨by omega,h2,h3⟩];rfl)
   clear d h2 h3 g;go_wp2_with fail;refine(Zp r Q _).mono ?_;rintro e K ⟨rfl,j⟩;obtain⟨q0,q1,q2,q3⟩:=(t.below j).cells;have f:=Ae j A (Aa A.out);obtain⟨L,M,N,P⟩:=Ay f;have yf:∀o,K.frozen? ⟨w.heap.size,o,O⟩=false:=by intro o;unfold D7 at f;simp[World.frozen?,f]
   have D:=G (t.below j).bel;clear B z1 z2 C zf c0 c1 Z c3 j f;go_wp2_with fail;refine bodyPost_ret (v:=Aq r) (by simp[Aq,results,results184,go_sem,L,M,N,P,O2,O1]) rfl ?_;exact⟨by rw[l.out],(((D.setCell (p:=⟨w.heap.size,0,O⟩) (Y2 _) _).setCell (p:=⟨w.heap.size,1,O⟩) (Y2 _) _).setCell (p:=⟨w.heap.size,2,O⟩) (Y2 _) _).setCell (p:=⟨w.heap.size,3,O⟩) (Y2 _) _⟩
  ·have ht:((Aw (A0 r)++⟨#[165]⟩).toList==s.toList)=false:=by simp[g,h3]
   have l:=G (d (fun h=>h3 h.2.2));clear d h2 h3 g;go_wp2_with fail;refine(Zp r Q _).mono ?_;rintro e K ⟨rfl,j⟩;have f:=Ae j A (Aa A.out);obtain⟨L,M,N,P⟩:=Ay f;have yf:∀o,K.frozen? ⟨w.heap.size,o,O⟩=false:=by intro o;unfold D7 at f;simp[World.frozen?,f]
   have D:=G (t.below j).bel;clear B z1 z2 C zf c0 c1 Z c3 j f;go_wp2_with fail;refine bodyPost_ret (v:=Aq ⟨0,0,0,0⟩) (by simp[Aq,results,results184,go_sem,L,M,N,P,O2,O1]) rfl ?_;exact⟨by rw[l.out],(((D.setCell (p:=⟨w.heap.size,0,O⟩) (Y2 _) _).setCell (p:=⟨w.heap.size,1,O⟩) (Y2 _) _).setCell (p:=⟨w.heap.size,2,O⟩) (Y2 _) _).setCell (p:=⟨w.heap.size,3,O⟩) (Y2 _) _⟩
 ·have l:=G (d (fun h=>h2 h.2.1));have E:(((r.seq:Int)-1)%9 != (k:Int))=true:=by simp;omega
  clear d h2;go_wp2_with fail;refine bodyPost_ret (v:=Aq ⟨0,0,0,0⟩) (by simp[Aq,results,results184,go_sem,B,z1,z2,C,O2,O1]) rfl ?_;exact⟨by rw[l.out],(((t.bel.setCell (p:=⟨w.heap.size,0,O⟩) (Y2 _) _).setCell (p:=⟨w.heap.size,1,O⟩) (Y2 _) _).setCell (p:=⟨w.heap.size,2,O⟩) (Y2 _) _).setCell (p:=⟨w.heap.size,3,O⟩) (Y2 _) _⟩
theorem Ahx(b:List UInt8)(a:Nat)(l:List UInt8)(j:Nat)(e:j<=l.length)(h:a+j<=b.length)(i:Nat):(Dy b a l j)[i]? =if i<a then b[i]? else if i<a+j then l[i-a]? else b[i]? :=by
 unfold Dy;have h1:(b.take a).length=a:=by simp;omega
 have h2:(l.take j).length=j:=by simp;omega
 by_cases hi:i<a
 ·rw[if_pos hi,F6,Zz9 (by omega),Zyv,if_pos hi]
 ·rw[if_neg hi];by_cases d:i<a+j
  ·rw[if_pos d,F6,Zzs (by omega),Zz9 (by omega),h1,Zyv,if_pos (by omega)]
  ·rw[if_neg d,Zzs (by rw[R2];omega),R2,h1,h2,Zyu];congr 1;omega
def G8(b:List UInt8)(k:Nat):List UInt8:=(b.drop (k*17)).take 17
theorem Ny(b:List UInt8)(k i:Nat):(G8 b k)[i]? =if i<17 then b[k*17+i]? else O:=by
 unfold G8;rw[Zyv];split
 ·rw[Zyu]
 ·rfl
theorem Nh(b:List UInt8)(k:Nat):Bg b k=Do k (G8 b k):=rfl
theorem Aay{b:List UInt8}{k a o j:Nat}{l:List UInt8}(d:j<=l.length)(f:o+j<=17)(h:k*17+o+j<=b.length)(e:a≠k):G8 (Dy b (k*17+o) l j) a=G8 b a:=by
 apply Zxl;intro i;rw[Ny,Ny];by_cases hi:i<17
 ·rw[if_pos hi,if_pos hi,Ahx b _ l j d h];by_cases h1:a*17+i<k*17+o
  ·rw[if_pos h1]
  ·rw[if_neg h1,if_neg (by omega)]
 ·rw[if_neg hi,if_neg hi]
theorem Ale{b:List UInt8}{k o j:Nat}{l:List UInt8}(a:j<=l.length)(d:o+j<=17)(h:k*17+o+j<=b.length)(i:Nat):(G8 (Dy b (k*17+o) l j) k)[i]? =if i<o then (G8 b k)[i]? else if i<o+j then l[i-o]? else (G8 b k)[i]? :=by
 rw[Ny,Ny];by_cases hi:i<17
 ·rw[if_pos hi,if_pos hi,Ahx b _ l j a h];by_cases h1:i<o
  ·rw[if_pos (by omega),if_pos h1]
  ·rw[if_neg (by omega),if_neg h1];by_cases h2:i<o+j
   ·rw[if_pos (by omega),if_pos h2];congr 1;omega
   ·rw[if_neg (by omega),if_neg h2]
 ·rw[if_neg hi,if_neg hi,if_neg (by omega),if_neg (by omega)]
theorem Vt{b:List UInt8}{k:Nat}(h:(G8 b k)[16]? =U 0):Bg b k=O:=by
 rw[Nh];exact sQ (by rw[h];decide)
structure O5 (b:List UInt8) (D:List Ap):Prop where
 len:153<=b.length
 seq:∀j (hj:j<D.length),D[j].seq=j+1/\Kv D[j]
 old:∀k,k<9->Bg b k=O\/∃j,∃hj:j<D.length,Bg b k=U D[j]/\j%9=k/\D.length<=j+9
 new:∀j (hj:j<D.length),D.length<=j+8->Bg b (j%9)=U D[j]
theorem Afu{b:List UInt8}{D:List Ap}(h:O5 b D):Ew (Bg b) 9=D.length:=by
 apply Nat.le_antisymm
 ·rcases Uw (Bg b) 9 with h0|⟨k,x,h1,h2,h3⟩
  ·omega
  ·rcases h.old k h1 with a|⟨j,d,a,_⟩
   ·rw[a]at h2;cases h2
   ·rw[a]at h2;obtain rfl:=Option.some.inj h2;have:=(h.seq j d).1;omega
 ·by_cases h0:D.length=0
  ·omega
  ·have h1:=h.new (D.length-1) (by omega) (by omega);have h2:=sI (Bg b) (r:=0) h1 9 (Zx5 _ (by decide));have:=(h.seq (D.length-1) (by omega)).1;omega
theorem pF{b:List UInt8}{D:List Ap}(h:O5 b D):Fg b=D.drop (D.length-8):=by
 unfold Fg;rw[Afu h];refine Sx (Bg b) 8 _ _ (by simp;omega) (fun j a=>?_) ?_
 ·simp only[B2]at a;rw[List.getElem_drop];have h1:=h.seq (D.length-8+j) (by omega);have h2:=h.new (D.length-8+j) (by omega) (by omega);refine⟨h1.2.s1,?_,?_⟩
  ·rw[h1.1];exact h2
  ·rw[h1.1,B2];omega
 ·rw[B2];by_cases d:8<=D.length
  ·left;omega
  ·right;left;omega
theorem Abd{b a:List UInt8}{D:List Ap}(h:O5 b D)(l:a.length=b.length)(f:∀k,k<9->k≠D.length%9->Bg a k=Bg b k)(m:Bg a (D.length%9)=O):O5 a D:=by
 refine⟨by rw[l];exact h.len,h.seq,fun k d=>?_,fun j i g=>?_⟩
 ·by_cases e:k=D.length%9
  ·subst e;left;exact m
  ·rw[f k d e];exact h.old k d
 ·rw[f _ (Zx5 _ (by decide)) (by omega)];exact h.new j i g
theorem Aft{b g:List UInt8}{D:List Ap}{x:Ap}(h:O5 b D)(s:g.length=b.length)(l:∀k,k<9->k≠D.length%9->Bg g k=Bg b k)(o:Bg g (D.length%9)=U x)(u:x.seq=D.length+1)(f:Kv x):O5 g (D++ [x]):=by
 refine⟨by rw[s];exact h.len,fun j a=>?_,fun k f=>?_,fun j a p=>?_⟩
 ·rw[R2,G3]at a;by_cases e:j<D.length
  ·rw[Zzd e];exact h.seq j e
  ·obtain rfl:j=D.length:=by omega
   rw[Zys (Y2 _)];simp[u,f]
 ·have n:(D++ [x]).length=D.length+1:=by simp
  by_cases e:k=D.length%9
  ·subst e;right;refine⟨D.length,by simp,?_,rfl,by omega⟩;rw[o,Zys (Y2 _)];simp
  ·by_cases t:k<D.length
   ·right;obtain⟨j,a,d,i⟩:∃j,j<D.length/\j%9=k/\D.length<=j+8:=by
     refine⟨D.length-1-(D.length-1+9-k)%9,by omega,by omega,by omega⟩
    refine⟨j,by simp;omega,?_,d,by omega⟩;rw[l k f e,<-d,h.new j a i,Zzd a]
   ·left;rw[l k f e];rcases h.old k f with m|⟨j,a,m,d,q⟩
    ·exact m
    ·omega
 ·rw[R2,G3]at a p;by_cases e:j<D.length
  ·rw[Zzd e,l _ (Zx5 _ (by decide)) (by omega)];exact h.new j e (by omega)
  ·obtain rfl:j=D.length:=by omega
   rw[o,Zys (Y2 _)];simp
def C9(x:Ap):Nat:=(x.seq-1)%9*17
def A4(m:CM)(x:Ap):Nat × CM:=
 if Fm m.off m.bs.length (C9 x+16:Nat) 1=0 then
  (if m.bs.getD (C9 x+16) 0=0 then put2 m x else if Bb m.cut 1=0 then put2 (Be m (C9 x+16) [0]) x else (Bb m.cut 1,Be m (C9 x+16) [0]))
 else (Fm m.off m.bs.length (C9 x+16:Nat) 1,m)
where
 put2 (m:CM) (x:Ap):Nat × CM:=
  if Bb m.cut 16=0 then (Bb (Be m (C9 x) (A0 x)).cut 1,Be (Be m (C9 x) (A0 x)) (C9 x+16) [165]) else (Bb m.cut 16,Be m (C9 x) (A0 x))
theorem Hx(cut:Int)(n:Nat):Bj cut n<=n:=by unfold Bj;split;exact Y2 _;exact Nat.min_le_right _ _
theorem J4{cut:Int}{n:Nat}(h:Bb cut n=0):Bj cut n=n:=by
 unfold Bb at h;have:=Hx cut n;by_cases e:Bj cut n<n
 ·rw[if_pos e]at h;cases h
 ·omega
theorem Ll{cut:Int}{n:Nat}(h:¬Bb cut n=0):Bb cut n=8/\Bj cut n<n:=by
 unfold Bb at h ⊢;by_cases e:Bj cut n<n
 ·rw[if_pos e];exact⟨rfl,e⟩
 ·rw[if_neg e]at h;exact absurd rfl h
theorem zW{cut:Int}{n:Nat}(h:-1<=cut):-1<=Eg cut (Bj cut n):=by
 unfold Eg Bj;by_cases e:cut= -1
 ·rw[if_pos e];omega
 ·rw[if_neg e,if_neg e];have:min cut.toNat n<=cut.toNat:=Nat.min_le_left _ _;omega
structure WrS (m m':CM) (k:Nat):Prop where
 len:m'.bs.length=m.bs.length
 oth:∀k',k'≠k->G8 m'.bs k'=G8 m.bs k'
 cut:-1<=m'.cut
theorem WrS.trans{a b c:CM}{k:Nat}(h:WrS a b k)(g:WrS b c k):WrS a c k:=⟨g.len.trans h.len,fun k' hk=>(g.oth k' hk).trans (h.oth k' hk),g.cut⟩
theorem U5{m:CM}{k o:Nat}{l:List UInt8}(f:o+l.length<=17)(h:k*17+o+l.length<=m.bs.length)(e:-1<=m.cut):
  WrS m (Be m (k*17+o) l) k/\(∀i,(G8 (Be m (k*17+o) l).bs k)[i]? =if i<o then (G8 m.bs k)[i]? else if i<o+Bj m.cut l.length then l[i-o]? else (G8 m.bs k)[i]?)/\
  (Be m (k*17+o) l).off=decide (Bj m.cut l.length<l.length):=by
 have a:=Hx m.cut l.length;refine⟨⟨?_,fun g d=>Aay a (by omega) (by omega) d,zW e⟩,fun i=>Ale a (by omega) (by omega) i,rfl⟩;exact Ei m.bs _ l _ a (by omega)
theorem Am1{l:List UInt8}{a:List UInt8}{z:UInt8}(e:a.length=16)(h:∀i,i<16->l[i]? =a[i]?)(d:l[16]? =U z)(f:l.length<=17):l=a++ [z]:=by
 apply Zxl;intro i;by_cases h1:i<16
 ·rw[h i h1,Zz9 (by omega)]
 ·by_cases h2:i=16
  ·subst h2;rw[d,Zzs (by omega),e];rfl
  ·rw[List.getElem?_eq_none (by omega),List.getElem?_eq_none (by simp;omega)]
theorem pI{m:CM}{x:Ap}{k:Nat}(s:(x.seq-1)%9=k)(u:Kv x)(A:153<=m.bs.length)(q:-1<=m.cut)(v:(G8 m.bs k)[16]? =U 0)(n:m.off=false):
  WrS m (A4.put2 m x).2 k/\(((A4.put2 m x).1=0/\(A4.put2 m x).2.off=false/\Bg (A4.put2 m x).2.bs k=U x)\/
   ((A4.put2 m x).1=8/\(A4.put2 m x).2.off=true/\Bg (A4.put2 m x).2.bs k=O)):=by
 have t:k<9:=by omega
 have a:=B7 x;obtain⟨w1,s1,o1⟩:=U5 (m:=m) (k:=k) (o:=0) (l:=A0 x) (by omega) (by omega) q;unfold A4.put2;rw[show C9 x=k*17+0 by unfold C9;omega];rw[a]at s1 o1;have z1:(G8 (Be m (k*17+0) (A0 x)).bs k)[16]? =U 0:=by
  have:=Hx m.cut 16;rw[s1 16,if_neg (by omega),if_neg (by omega)];exact v
 by_cases h1:Bb m.cut 16=0
 ·rw[if_pos h1];have n1:=J4 h1;obtain⟨d,g⟩:∃d,d=Be m (k*17+0) (A0 x):=⟨_,rfl⟩
  rw[<-g]at w1 s1 o1 z1 ⊢;obtain⟨y,s2,p⟩:=U5 (m:=d) (k:=k) (o:=16) (l:=[165]) (by simp) (by simp;have:=w1.len;omega) w1.cut;rw[Zzw];refine⟨w1.trans y,?_⟩;by_cases h2:Bb d.cut 1=0
  ·have j:=J4 h2;left;refine⟨h2,?_,?_⟩
   ·rw[p];simp[j]
   ·rw[Nh];have e:G8 (Be d (k*17+16) [165]).bs k=A0 x++ [165]:=by
     refine Am1 a (fun i hi=>?_) ?_ ?_
     ·rw[s2 i,if_pos hi,s1 i,if_neg (by omega),n1,if_pos (by omega),Nat.sub_zero]
     ·rw[s2 16,if_neg (by omega)];simp[j]
     ·simp[G8];omega
    rw[e];exact sR x u k s
  ·obtain⟨f,j⟩:=Ll h2;right;refine⟨f,?_,?_⟩
   ·rw[p];simp;omega
   ·apply Vt;rw[s2 16,if_neg (by omega),if_neg (by simp;omega)];exact z1
 ·rw[if_neg h1];obtain⟨f,n1⟩:=Ll h1;refine⟨w1,.inr ⟨f,?_,Vt z1⟩⟩;rw[o1];simp;omega
theorem Aip{m:CM}{x:Ap}{D:List Ap}(h:O5 m.bs D)(s:-1<=m.cut)(d:m.off=false)(K:x.seq=D.length+1)(u:Kv x):
  -1<=(A4 m x).2.cut/\(A4 m x).2.bs.length=m.bs.length/\(((A4 m x).1=0/\(A4 m x).2.off=false/\O5 (A4 m x).2.bs (D++ [x]))\/((A4 m x).1=8/\(A4 m x).2.off=true/\O5 (A4 m x).2.bs D)):=by
 obtain⟨k,q⟩:∃k,(x.seq-1)%9=k:=⟨_,rfl⟩
 have j:k=D.length%9:=by rw[<-q,K];rfl
 have N:k<9:=by omega
 have E:=h.len;have t:C9 x=k*17:=by unfold C9;rw[q]
 unfold A4;rw[t,d,if_pos (Lo (by omega))];have fin:∀{y:CM} {p:Nat × CM},WrS m y k->WrS y p.2 k->((p.1=0/\p.2.off=false/\Bg p.2.bs k=U x)\/(p.1=8/\p.2.off=true/\Bg p.2.bs k=O))->
   -1<=p.2.cut/\p.2.bs.length=m.bs.length/\((p.1=0/\p.2.off=false/\O5 p.2.bs (D++ [x]))\/(p.1=8/\p.2.off=true/\O5 p.2.bs D)):=by
  intro y p a b Q;have g:=a.trans b;have H:∀f,f<9->f≠D.length%9->Bg p.2.bs f=Bg m.bs f:=fun f _ M=>by
   rw[Nh,Nh,g.oth f (by omega)]
  refine⟨g.cut,g.len,?_⟩;rcases Q with⟨A,B,C⟩|⟨A,B,C⟩
  ·left;exact⟨A,B,Aft h g.len H (by rw[<-j];exact C) K u⟩
  ·right;exact⟨A,B,Abd h g.len H (by rw[<-j];exact C)⟩
 have self:WrS m m k:=⟨rfl,fun _ _=>rfl,s⟩
 have i:(G8 m.bs k)[16]? =m.bs[k*17+16]? :=by rw[Ny,if_pos (by omega)]
 have n:k*17+16<m.bs.length:=by omega
 by_cases h0:m.bs.getD (k*17+16) 0=0
 ·rw[if_pos h0];rw[Of,R4 n]at h0;have v:(G8 m.bs k)[16]? =U 0:=by rw[i,R4 n];congr 1
  obtain⟨a,b⟩:=pI q u E s v d;exact fin self a b
 ·rw[if_neg h0];obtain⟨w1,s1,o1⟩:=U5 (m:=m) (k:=k) (o:=16) (l:=[0]) (by simp) (by simp;omega) s;simp only[G3]at s1 o1;by_cases h1:Bb m.cut 1=0
  ·rw[if_pos h1];have n1:=J4 h1;have v:(G8 (Be m (k*17+16) [0]).bs k)[16]? =U 0:=by
    rw[s1 16,if_neg (by omega),if_pos (by omega)];rfl
   have e:(Be m (k*17+16) [0]).off=false:=by rw[o1];simp[n1]
   obtain⟨a,b⟩:=pI q u (by rw[w1.len];exact E) w1.cut v e;exact fin w1 a b
  ·rw[if_neg h1];obtain⟨L,n1⟩:=Ll h1;have P:Bj m.cut 1=0:=by omega
   refine⟨w1.cut,w1.len,.inr ⟨L,?_,?_⟩⟩
   ·show(Be m (k*17+16) [0]).off=true
    rw[o1];simp;omega
   ·show O5 (Dy m.bs (k*17+16) [0] (Bj m.cut [0].length)) D
    rw[show Bj m.cut ([0]:List UInt8).length=0 from P,V5];exact h
theorem pE(n:Nat)(h:153<=n):O5 (List.replicate n 0) []:=by
 refine⟨by simpa using h,fun j a=>by simp at a,fun k d=>.inl (Vt ?_),fun j a=>by simp at a⟩;rw[Ny,if_pos (by omega),Zx2,if_pos (by omega)]
