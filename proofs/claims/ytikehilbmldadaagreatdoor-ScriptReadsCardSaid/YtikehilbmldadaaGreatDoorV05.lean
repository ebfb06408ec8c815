import Derived.Test.YtikehilbmldadaaGreatDoorV04
import Derived.Test.YtikehilbmldadaaGreatDoorV14
import Derived.LaidLaws
import Derived.LaidHandle
import Derived.Stop.Joined
set_option maxHeartbeats 2000000
set_option maxRecDepth 100000
set_option linter.unusedVariables false
open Go.Proofs.Tryz Go.Proofs.YtikehilbmldadaaGreatDoor.Tryz
namespace Go.Proofs.YtikehilbmldadaaGreatDoor
section
open Go.RowKit
theorem Rf(a b:List UInt8):Co a++Co b=Co (a++b):=by
 apply ByteArray.ext
 rw[ByteArray.data_append]
 simp[Co]
theorem Mz(l:List UInt8):(Co l).data.toList=l:=by simp[Co]
theorem Fl(l:List UInt8):(Co l).size=l.length:=by simp[Co,ByteArray.size]
def A3(r:Ar):Value:=.agg #[.int .i64 r.seq,.int .i64 r.ent,.int .i64 r.kind,.int .i64 r.tick]
def Fq(r:Ar):Obj:=.cells #[.int .i64 r.seq,.int .i64 r.ent,.int .i64 r.kind,.int .i64 r.tick] 147
structure Afd (r:Ar):Prop where
 s:r.seq<9223372036854775808
 e:r.ent<9223372036854775808
 k:r.kind<9223372036854775808
 t:r.tick<9223372036854775808
theorem J8.sm{r:Ar}(h:J8 r):Afd r:=⟨by have:=h.s2;omega,by have:=h.e;omega,by have:=h.k;omega,by have:=h.t;omega⟩
structure BK (r:Ar) (b:Nat) (w0 w:World):Prop where
 box:w.heap[b]? =some (Fq r)
 bel:Below w0.heap.size w0 w
 lo:w0.heap.size<=b
theorem BK.below{r:Ar}{b:Nat}{w0 w w':World}(h:BK r b w0 w)(k:Below w.heap.size w w'):BK r b w0 w':=⟨Af k h.box (Aa h.box),h.bel.trans (k.mono h.bel.size),h.lo⟩
theorem BK.drew{r:Ar}{b:Nat}{w0 w:World}(h:BK r b w0 w):BK r b w0 w.drew:=⟨h.box,h.bel.drew,h.lo⟩
theorem BK.cells{r:Ar}{b:Nat}{w0 w:World}(h:BK r b w0 w):w.cell? ⟨b,0,none⟩=some (.int .i64 r.seq)/\w.cell? ⟨b,1,none⟩=some (.int .i64 r.ent)/\w.cell? ⟨b,2,none⟩=some (.int .i64 r.kind)/\w.cell? ⟨b,3,none⟩=some (.int .i64 r.tick):=
 Bn h.box
theorem Wb(r:Ar)(h:Afd r)(w:World):Calls Tryz.prog 227 #[A3 r] w fun e w'=>e=.returned (.string (Co (Bd r)))/\Below w.heap.size w w':=by
 obtain⟨h1,h2,h3,h4⟩:=h
 have hN:∀(n many:Nat) (m:Int) (W:World),n<9223372036854775808->many<=8->m=many->BK r w.heap.size w W->Calls Tryz.prog 261 #[.int .i64 n,.int .i64 m] W fun e w'=>e=.returned (.string (Co (beB many n)))/\BK r w.heap.size w w':=by
  intro n many m W hn hm e hW
  subst e
  refine(Us n many hm hn W).mono ?_
  rintro e w1 ⟨rfl,b⟩
  exact⟨rfl,hW.below b⟩
 have HN:=Aia hN
 have k0:BK r w.heap.size w (w.alloc (Fq r)):=⟨Ab _ _,(Below.refl _ _).alloc (Nat.le_refl _) _,Nat.le_refl _⟩
 have K0:=Aia k0
 unfold Fq at K0
 clear k0 hN
 unfold A3
 go_enter func227,ntmps227
 go_wp2_with fail
 generalize w.alloc _=w0 at K0 ⊢
 have z1:(Co (beB 4 r.seq)).size=4:=by rw[Fl,Dv]
 have z2:(Co (beB 1 r.ent)).size=1:=by rw[Fl,Dv]
 have z3:(Co (beB 1 r.kind)).size=1:=by rw[Fl,Dv]
 have z4:(Co (beB 6 r.tick)).size=6:=by rw[Fl,Dv]
 go_cut [3] (fun s3 wx=>s3=.string (Co (Cv r))/\BK r w.heap.size w wx)
 case first=>
  go_region_held3 (fun w'=>w'.cell? ⟨w.heap.size,0,none⟩=some (.int .i64 r.seq)/\w'.cell? ⟨w.heap.size,1,none⟩=some (.int .i64 r.ent)/\w'.cell? ⟨w.heap.size,2,none⟩=some (.int .i64 r.kind)/\w'.cell? ⟨w.heap.size,3,none⟩=some (.int .i64 r.tick))
   (first|exact K0.out.cells|exact k1.cells|exact k2.cells|exact k3.cells|exact k4.cells)
   (first|(go_at_call_of 261 (Value.int .i64 r.seq);refine(HN.out r.seq 4 4 _ h1 (by decide) rfl ?_).mono ?_;(repeat(first|exact K0.out|refine BK.drew ?_));rintro e w1 ⟨rfl,k1⟩)|(go_at_call_of 261 (Value.int .i64 r.ent);refine(HN.out r.ent 1 1 _ h2 (by decide) rfl ?_).mono ?_;(repeat(first|exact k1|refine BK.drew ?_));rintro e w2 ⟨rfl,k2⟩)|(go_at_call_of 261 (Value.int .i64 r.kind);refine(HN.out r.kind 1 1 _ h3 (by decide) rfl ?_).mono ?_;(repeat(first|exact k2|refine BK.drew ?_));rintro e w3 ⟨rfl,k3⟩)|(go_at_call_of 261 (Value.int .i64 r.tick);refine(HN.out r.tick 6 6 _ h4 (by decide) rfl ?_).mono ?_;(repeat(first|exact k3|refine BK.drew ?_));rintro e w4 ⟨rfl,k4⟩))
  all_goals(go_wp2_with fail;go_meet)
  all_goals(refine⟨?_,by repeat(first|exact k4|refine BK.drew ?_)⟩;simp only[Rf,Cv])
 case rest=>
 obtain⟨rfl,hk⟩:=hcut
 have HK:=Aia hk
 have hz:(Co (Cv r)).size<=100000:=by rw[Fl,Ky];decide
 have HB:Hid (Co (Cv r)++Co (beB 4 (crc (Cv r)))=Co (Bd r)):=Aia (Rf _ _)
 have hc:=Aes (Cv r)
 have z5:(Co (Cv r)).size=12:=by rw[Fl,Ky]
 have z6:(Co (beB 4 (crc (Cv r)))).size=4:=by rw[Fl,Dv]
 clear hk K0 z1 z2 z3 z4
 go_wp2_with fail
 refine(Afo _ _ hz).mono ?_
 rintro e w' ⟨rfl,rfl⟩
 rw[Mz]
 go_wp2_with fail
 refine(HN.out _ 4 4 _ (by omega) (by decide) rfl HK.out).mono ?_
 rintro e w5 ⟨rfl,k5⟩
 go_wp2_with fail
 go_ret
 exact⟨by rw[<-HB.out];rfl,k5.bel⟩
theorem Aek(s:ByteArray)(a b:Nat):(s.extract a b).data.toList=(s.data.toList.drop a).take (b-a):=by
 rw[ByteArray.data_extract,Array.toList_extract]
theorem Aej(s:ByteArray)(a b:Nat)(h:b<=s.size):(s.extract a b).size=b-a:=by
 rw[ByteArray.size_extract];omega
theorem Aeb(w:World)(r:Ar):BK r (w.heap.size+1) w ((w.alloc (Fq ⟨0,0,0,0⟩)).alloc (Fq r)).drew/\((w.alloc (Fq ⟨0,0,0,0⟩)).alloc (Fq r)).drew.heap[w.heap.size]? =some (Fq ⟨0,0,0,0⟩):=by
 have n1:=Ab (w.alloc (Fq ⟨0,0,0,0⟩)) (Fq r)
 rw[World.size_alloc]at n1
 exact⟨⟨n1,(((Below.refl _ _).alloc (Nat.le_refl _) _).alloc (by simp) _).drew,by omega⟩,Cm _ (Ab _ _)⟩
def sX(o:Option Ar):Ar:=o.getD ⟨0,0,0,0⟩
theorem Aec(k:Nat)(hk:k<9)(s:ByteArray)(hs:s.size=17)(w:World):Calls Tryz.prog 184 #[.int .i64 k,.string s] w fun e w'=>e=.returned (A3 (sX (Ga k s.data.toList)))/\Below w.heap.size w w':=by
 have hl:s.data.toList.length=17:=hs
 have HL:=Aia hl
 have hRd:∀(a b:Nat) (n:Nat) (W:World),b<=17->b<=a+6->Gc ((s.data.toList.drop a).take (b-a))=n->Calls Tryz.prog 226 #[.string (s.extract a b)] W fun e w'=>e=.returned (.int .i64 n)/\W=w':=by
  intro a b n W h1 h2 h3
  have:=Y8 (s.extract a b) (by rw[Aej _ _ _ (by omega)];omega) W
  rw[Aek,h3]at this
  exact this
 obtain⟨r,hr⟩:∃r,r=Rj s.data.toList:=⟨_,rfl⟩
 have hm:r.seq<4294967296/\Afd r:=by
  have h1:=Hh (s.data.toList.take 4)
  have h2:=Hh ((s.data.toList.drop 4).take 1)
  have h3:=Hh ((s.data.toList.drop 5).take 1)
  have h4:=Hh ((s.data.toList.drop 6).take 6)
  simp only[List.length_take,List.length_drop,hl]at h1 h2 h3 h4
  subst hr
  exact⟨h1,Nat.lt_trans h1 (by decide),Nat.lt_trans h2 (by decide),Nat.lt_trans h3 (by decide),Nat.lt_trans h4 (by decide)⟩
 have r1:=fun W=>hRd 0 4 r.seq W (by decide) (by decide) (by rw[hr];rfl)
 have r2:=fun W=>hRd 4 5 r.ent W (by decide) (by decide) (by rw[hr];rfl)
 have r3:=fun W=>hRd 5 6 r.kind W (by decide) (by decide) (by rw[hr];rfl)
 have r4:=fun W=>hRd 6 12 r.tick W (by decide) (by decide) (by rw[hr];rfl)
 have R1:=Aia r1
 have R2:=Aia r2
 have R3:=Aia r3
 have R4:=Aia r4
 have HR:=Aia hr
 clear r1 r2 r3 r4 hRd hr hl
 go_enter func184,ntmps184
 go_wp2_with fail
 go_cut [5] (fun s5 wx=>s5=.pointer (some ⟨w.heap.size+1,0,none⟩)/\BK r (w.heap.size+1) w wx/\wx.heap[w.heap.size]? =some (Fq ⟨0,0,0,0⟩))
 case first=>
  go_region_held3 (fun _=>True) (exact trivial)
   (first|(go_at_call_of 226 (Value.string (s.extract 0 4));refine(R1.out _).mono ?_;rintro e w1 ⟨rfl,rfl⟩)|(go_at_call_of 226 (Value.string (s.extract 4 5));refine(R2.out _).mono ?_;rintro e w1 ⟨rfl,rfl⟩)|(go_at_call_of 226 (Value.string (s.extract 5 6));refine(R3.out _).mono ?_;rintro e w1 ⟨rfl,rfl⟩)|(go_at_call_of 226 (Value.string (s.extract 6 12));refine(R4.out _).mono ?_;rintro e w1 ⟨rfl,rfl⟩))
  all_goals(go_wp2_with fail;go_meet)
  all_goals exact⟨rfl,Aeb w r⟩
 case rest=>
 obtain⟨rfl,hk5,hz⟩:=hcut
 obtain⟨hm1,hm2⟩:=hm
 have HK:=Aia hk5
 have HZ:=Aia hz
 obtain⟨c0,c1,c2,c3⟩:=hk5.cells
 obtain⟨z0,z1,z2,z3⟩:=Bn hz
 have zf:∀o,wc.frozen? ⟨w.heap.size,o,none⟩=false:=by intro o;unfold Fq at hz;simp[World.frozen?,hz]
 have HM:=Aia hm2
 clear hk5 hz R1 R2 R3 R4 hm2
 have hnone:¬(1<=r.seq/\(r.seq-1)%9=k/\Bd r++ [165]=s.data.toList)->sX (Ga k s.data.toList)=⟨0,0,0,0⟩:=fun h=>by
  unfold Ga
  rw[<-HR.out,if_neg h];rfl
 by_cases h1:r.seq<1
 ·have HN:=Aia (hnone (by omega))
  have hd:decide ((r.seq:Int)<1)=true:=decide_eq_true (by omega)
  clear hnone
  go_wp2_with fail
  refine bodyPost_ret (v:=A3 ⟨0,0,0,0⟩) (by simp[A3,results,results184,go_sem,z0,z1,z2,z3,World.cell?_setCell_same,World.cell?_setCell_other]) rfl ?_
  exact⟨by rw[HN.out],(((HK.out.bel.setCell (p:=⟨w.heap.size,0,none⟩) (Nat.le_refl _) _).setCell (p:=⟨w.heap.size,1,none⟩) (Nat.le_refl _) _).setCell (p:=⟨w.heap.size,2,none⟩) (Nat.le_refl _) _).setCell (p:=⟨w.heap.size,3,none⟩) (Nat.le_refl _) _⟩
 have hd:decide ((r.seq:Int)<1)=false:=decide_eq_false (by omega)
 have hn1:(1:Int)<=r.seq:=by omega
 by_cases h2:(r.seq-1)%9=k
 ·have h2b:(((r.seq:Int)-1)%9 != (k:Int))=false:=by simp;omega
  have HZ1:(Co (Bd r)).size=16:=by rw[Fl,Cx]
  have hstr:((Co (Bd r)++⟨#[165]⟩).toList=s.toList)↔Bd r++ [165]=s.data.toList:=by
   rw[ByteArray.toList_eq,ByteArray.toList_eq,ByteArray.data_append,Array.toList_append,Mz]
  by_cases h3:Bd r++ [165]=s.data.toList
  ·have ht:((Co (Bd r)++⟨#[165]⟩).toList==s.toList)=true:=by simp[hstr,h3]
   have HN:Hid (sX (Ga k s.data.toList)=r):=Aia (by
    unfold Ga
    rw[<-HR.out,if_pos ⟨by omega,h2,h3⟩];rfl)
   clear hnone h2 h3 hstr
   go_wp2_with fail
   refine(Wb r HM.out _).mono ?_
   rintro e w5 ⟨rfl,b5⟩
   obtain⟨q0,q1,q2,q3⟩:=(HK.out.below b5).cells
   have hz5:=Af b5 HZ.out (Aa HZ.out)
   obtain⟨y0,y1,y2,y3⟩:=Bn hz5
   have yf:∀o,w5.frozen? ⟨w.heap.size,o,none⟩=false:=by intro o;unfold Fq at hz5;simp[World.frozen?,hz5]
   have HB:=Aia (HK.out.below b5).bel
   clear z0 z1 z2 z3 zf c0 c1 c2 c3 b5 hz5
   go_wp2_with fail
   refine bodyPost_ret (v:=A3 r) (by simp[A3,results,results184,go_sem,y0,y1,y2,y3,World.cell?_setCell_same,World.cell?_setCell_other]) rfl ?_
   exact⟨by rw[HN.out],(((HB.out.setCell (p:=⟨w.heap.size,0,none⟩) (Nat.le_refl _) _).setCell (p:=⟨w.heap.size,1,none⟩) (Nat.le_refl _) _).setCell (p:=⟨w.heap.size,2,none⟩) (Nat.le_refl _) _).setCell (p:=⟨w.heap.size,3,none⟩) (Nat.le_refl _) _⟩
  ·have ht:((Co (Bd r)++⟨#[165]⟩).toList==s.toList)=false:=by simp[hstr,h3]
   have HN:=Aia (hnone (fun h=>h3 h.2.2))
   clear hnone h2 h3 hstr
   go_wp2_with fail
   refine(Wb r HM.out _).mono ?_
   rintro e w5 ⟨rfl,b5⟩
   have hz5:=Af b5 HZ.out (Aa HZ.out)
   obtain⟨y0,y1,y2,y3⟩:=Bn hz5
   have yf:∀o,w5.frozen? ⟨w.heap.size,o,none⟩=false:=by intro o;unfold Fq at hz5;simp[World.frozen?,hz5]
   have HB:=Aia (HK.out.below b5).bel
   clear z0 z1 z2 z3 zf c0 c1 c2 c3 b5 hz5
   go_wp2_with fail
   refine bodyPost_ret (v:=A3 ⟨0,0,0,0⟩) (by simp[A3,results,results184,go_sem,y0,y1,y2,y3,World.cell?_setCell_same,World.cell?_setCell_other]) rfl ?_
   exact⟨by rw[HN.out],(((HB.out.setCell (p:=⟨w.heap.size,0,none⟩) (Nat.le_refl _) _).setCell (p:=⟨w.heap.size,1,none⟩) (Nat.le_refl _) _).setCell (p:=⟨w.heap.size,2,none⟩) (Nat.le_refl _) _).setCell (p:=⟨w.heap.size,3,none⟩) (Nat.le_refl _) _⟩
 ·have HN:=Aia (hnone (fun h=>h2 h.2.1))
  have h2b:(((r.seq:Int)-1)%9 != (k:Int))=true:=by simp;omega
  clear hnone h2
  go_wp2_with fail
  refine bodyPost_ret (v:=A3 ⟨0,0,0,0⟩) (by simp[A3,results,results184,go_sem,z0,z1,z2,z3,World.cell?_setCell_same,World.cell?_setCell_other]) rfl ?_
  exact⟨by rw[HN.out],(((HK.out.bel.setCell (p:=⟨w.heap.size,0,none⟩) (Nat.le_refl _) _).setCell (p:=⟨w.heap.size,1,none⟩) (Nat.le_refl _) _).setCell (p:=⟨w.heap.size,2,none⟩) (Nat.le_refl _) _).setCell (p:=⟨w.heap.size,3,none⟩) (Nat.le_refl _) _⟩
end
section
theorem Ab8(b:List UInt8)(a:Nat)(l:List UInt8)(j:Nat)(hj:j<=l.length)(h:a+j<=b.length)(i:Nat):(Ex b a l j)[i]? =if i<a then b[i]? else if i<a+j then l[i-a]? else b[i]? :=by
 unfold Ex
 have h1:(b.take a).length=a:=by simp;omega
 have h2:(l.take j).length=j:=by simp;omega
 by_cases hi:i<a
 ·rw[if_pos hi,List.append_assoc,List.getElem?_append_left (by omega),List.getElem?_take,if_pos hi]
 ·rw[if_neg hi]
  by_cases hi2:i<a+j
  ·rw[if_pos hi2,List.append_assoc,List.getElem?_append_right (by omega),List.getElem?_append_left (by omega),h1,List.getElem?_take,if_pos (by omega)]
  ·rw[if_neg hi2,List.getElem?_append_right (by rw[List.length_append];omega),List.length_append,h1,h2,List.getElem?_drop]
   congr 1;omega
def Fm(b:List UInt8)(k:Nat):List UInt8:=(b.drop (k*17)).take 17
theorem Lz(b:List UInt8)(k i:Nat):(Fm b k)[i]? =if i<17 then b[k*17+i]? else none:=by
 unfold Fm
 rw[List.getElem?_take]
 split
 ·rw[List.getElem?_drop]
 ·rfl
theorem Lh(b:List UInt8)(k:Nat):Bx b k=Ga k (Fm b k):=rfl
theorem rX{b:List UInt8}{k k' o j:Nat}{l:List UInt8}(hj:j<=l.length)(ho:o+j<=17)(h:k*17+o+j<=b.length)(hk:k'≠k):Fm (Ex b (k*17+o) l j) k'=Fm b k':=by
 apply List.ext_getElem?
 intro i
 rw[Lz,Lz]
 by_cases hi:i<17
 ·rw[if_pos hi,if_pos hi,Ab8 b _ l j hj h]
  by_cases h1:k'*17+i<k*17+o
  ·rw[if_pos h1]
  ·rw[if_neg h1,if_neg (by omega)]
 ·rw[if_neg hi,if_neg hi]
theorem Afs{b:List UInt8}{k o j:Nat}{l:List UInt8}(hj:j<=l.length)(ho:o+j<=17)(h:k*17+o+j<=b.length)(i:Nat):(Fm (Ex b (k*17+o) l j) k)[i]? =if i<o then (Fm b k)[i]? else if i<o+j then l[i-o]? else (Fm b k)[i]? :=by
 rw[Lz,Lz]
 by_cases hi:i<17
 ·rw[if_pos hi,if_pos hi,Ab8 b _ l j hj h]
  by_cases h1:i<o
  ·rw[if_pos (by omega),if_pos h1]
  ·rw[if_neg (by omega),if_neg h1]
   by_cases h2:i<o+j
   ·rw[if_pos (by omega),if_pos h2];congr 1;omega
   ·rw[if_neg (by omega),if_neg h2]
 ·rw[if_neg hi,if_neg hi,if_neg (by omega),if_neg (by omega)]
theorem Sp{b:List UInt8}{k:Nat}(h:(Fm b k)[16]? =some 0):Bx b k=none:=by
 rw[Lh]
 exact Zv (by rw[h];decide)
structure Lu (b:List UInt8) (D:List Ar):Prop where
 len:153<=b.length
 seq:∀j (hj:j<D.length),D[j].seq=j+1/\J8 D[j]
 old:∀k,k<9->Bx b k=none\/∃j,∃hj:j<D.length,Bx b k=some D[j]/\j%9=k/\D.length<=j+9
 new:∀j (hj:j<D.length),D.length<=j+8->Bx b (j%9)=some D[j]
theorem zN{b:List UInt8}{D:List Ar}(h:Lu b D):I2 (Bx b) 9=D.length:=by
 apply Nat.le_antisymm
 ·rcases T8 (Bx b) 9 with h0|⟨k,x,h1,h2,h3⟩
  ·omega
  ·rcases h.old k h1 with h4|⟨j,hj,h4,_⟩
   ·rw[h4]at h2;cases h2
   ·rw[h4]at h2
    obtain rfl:=Option.some.inj h2
    have:=(h.seq j hj).1
    omega
 ·by_cases h0:D.length=0
  ·omega
  ·have h1:=h.new (D.length-1) (by omega) (by omega)
   have h2:=Zn (Bx b) (r:=0) h1 9 (Nat.mod_lt _ (by decide))
   have:=(h.seq (D.length-1) (by omega)).1
   omega
theorem Xr{b:List UInt8}{D:List Ar}(h:Lu b D):Ir b=D.drop (D.length-8):=by
 unfold Ir
 rw[zN h]
 refine Qt (Bx b) 8 _ _ (by simp;omega) (fun j hj=>?_) ?_
 ·simp only[List.length_drop]at hj
  rw[List.getElem_drop]
  have h1:=h.seq (D.length-8+j) (by omega)
  have h2:=h.new (D.length-8+j) (by omega) (by omega)
  refine⟨h1.2.s1,?_,?_⟩
  ·rw[h1.1]
   exact h2
  ·rw[h1.1,List.length_drop];omega
 ·rw[List.length_drop]
  by_cases h8:8<=D.length
  ·left;omega
  ·right;left;omega
theorem sL{b b':List UInt8}{D:List Ar}(h:Lu b D)(hl:b'.length=b.length)(ho:∀k,k<9->k≠D.length%9->Bx b' k=Bx b k)(hz:Bx b' (D.length%9)=none):Lu b' D:=by
 refine⟨by rw[hl];exact h.len,h.seq,fun k hk=>?_,fun j hj h8=>?_⟩
 ·by_cases e:k=D.length%9
  ·subst e;left;exact hz
  ·rw[ho k hk e];exact h.old k hk
 ·rw[ho _ (Nat.mod_lt _ (by decide)) (by omega)];exact h.new j hj h8
theorem zM{b b':List UInt8}{D:List Ar}{x:Ar}(h:Lu b D)(hl:b'.length=b.length)(ho:∀k,k<9->k≠D.length%9->Bx b' k=Bx b k)(hz:Bx b' (D.length%9)=some x)(hx:x.seq=D.length+1)(hk:J8 x):Lu b' (D++ [x]):=by
 refine⟨by rw[hl];exact h.len,fun j hj=>?_,fun k hk=>?_,fun j hj h8=>?_⟩
 ·rw[List.length_append,List.length_singleton]at hj
  by_cases e:j<D.length
  ·rw[List.getElem_append_left e];exact h.seq j e
  ·obtain rfl:j=D.length:=by omega
   rw[List.getElem_append_right (Nat.le_refl _)]
   simp[hx,hk]
 ·have hLen:(D++ [x]).length=D.length+1:=by simp
  by_cases e:k=D.length%9
  ·subst e
   right
   refine⟨D.length,by simp,?_,rfl,by omega⟩
   rw[hz,List.getElem_append_right (Nat.le_refl _)];simp
  ·by_cases hlt:k<D.length
   ·right
    obtain⟨j,hj,hjk,hj8⟩:∃j,j<D.length/\j%9=k/\D.length<=j+8:=by
     refine⟨D.length-1-(D.length-1+9-k)%9,by omega,by omega,by omega⟩
    refine⟨j,by simp;omega,?_,hjk,by omega⟩
    rw[ho k hk e,<-hjk,h.new j hj hj8,List.getElem_append_left hj]
   ·left
    rw[ho k hk e]
    rcases h.old k hk with h4|⟨j,hj,h4,hjk,hj9⟩
    ·exact h4
    ·omega
 ·rw[List.length_append,List.length_singleton]at hj h8
  by_cases e:j<D.length
  ·rw[List.getElem_append_left e,ho _ (Nat.mod_lt _ (by decide)) (by omega)]
   exact h.new j e (by omega)
  ·obtain rfl:j=D.length:=by omega
   rw[hz,List.getElem_append_right (Nat.le_refl _)];simp
def Ee(x:Ar):Nat:=(x.seq-1)%9*17
def Bc(m:CM)(x:Ar):Nat × CM:=
 if Js m.off m.bs.length (Ee x+16:Nat) 1=0 then
  (if m.bs.getD (Ee x+16) 0=0 then put2 m x else if C8 m.cut 1=0 then put2 (Ce m (Ee x+16) [0]) x else (C8 m.cut 1,Ce m (Ee x+16) [0]))
 else (Js m.off m.bs.length (Ee x+16:Nat) 1,m)
where
 put2 (m:CM) (x:Ar):Nat × CM:=
  if C8 m.cut 16=0 then (C8 (Ce m (Ee x) (Bd x)).cut 1,Ce (Ce m (Ee x) (Bd x)) (Ee x+16) [165]) else (C8 m.cut 16,Ce m (Ee x) (Bd x))
theorem H9(cut:Int)(n:Nat):Bt cut n<=n:=by unfold Bt;split;exact Nat.le_refl _;exact Nat.min_le_right _ _
theorem Jn{cut:Int}{n:Nat}(h:C8 cut n=0):Bt cut n=n:=by
 unfold C8 at h
 have:=H9 cut n
 by_cases e:Bt cut n<n
 ·rw[if_pos e]at h;cases h
 ·omega
theorem Jo{cut:Int}{n:Nat}(h:¬C8 cut n=0):C8 cut n=8/\Bt cut n<n:=by
 unfold C8 at h ⊢
 by_cases e:Bt cut n<n
 ·rw[if_pos e];exact⟨rfl,e⟩
 ·rw[if_neg e]at h;exact absurd rfl h
theorem qW{cut:Int}{n:Nat}(h:-1<=cut):-1<=Fp cut (Bt cut n):=by
 unfold Fp Bt
 by_cases e:cut= -1
 ·rw[if_pos e];omega
 ·rw[if_neg e,if_neg e]
  have:min cut.toNat n<=cut.toNat:=Nat.min_le_left _ _
  omega
structure WrS (m m':CM) (k:Nat):Prop where
 len:m'.bs.length=m.bs.length
 oth:∀k',k'≠k->Fm m'.bs k'=Fm m.bs k'
 cut:-1<=m'.cut
theorem WrS.trans{a b c:CM}{k:Nat}(h:WrS a b k)(g:WrS b c k):WrS a c k:=⟨g.len.trans h.len,fun k' hk=>(g.oth k' hk).trans (h.oth k' hk),g.cut⟩
theorem Sa{m:CM}{k o:Nat}{l:List UInt8}(ho:o+l.length<=17)(h:k*17+o+l.length<=m.bs.length)(hc:-1<=m.cut):
  WrS m (Ce m (k*17+o) l) k/\(∀i,(Fm (Ce m (k*17+o) l).bs k)[i]? =if i<o then (Fm m.bs k)[i]? else if i<o+Bt m.cut l.length then l[i-o]? else (Fm m.bs k)[i]?)/\
  (Ce m (k*17+o) l).off=decide (Bt m.cut l.length<l.length):=by
 have hj:=H9 m.cut l.length
 refine⟨⟨?_,fun k' hk'=>rX hj (by omega) (by omega) hk',qW hc⟩,fun i=>Afs hj (by omega) (by omega) i,rfl⟩
 exact Gg m.bs _ l _ hj (by omega)
theorem Ag5{l:List UInt8}{a:List UInt8}{z:UInt8}(ha:a.length=16)(h:∀i,i<16->l[i]? =a[i]?)(h16:l[16]? =some z)(hl:l.length<=17):l=a++ [z]:=by
 apply List.ext_getElem?
 intro i
 by_cases h1:i<16
 ·rw[h i h1,List.getElem?_append_left (by omega)]
 ·by_cases h2:i=16
  ·subst h2
   rw[h16,List.getElem?_append_right (by omega),ha];rfl
  ·rw[List.getElem?_eq_none (by omega),List.getElem?_eq_none (by simp;omega)]
theorem Xs{m:CM}{x:Ar}{k:Nat}(hk:(x.seq-1)%9=k)(hx:J8 x)(hl:153<=m.bs.length)(hc:-1<=m.cut)(hz:(Fm m.bs k)[16]? =some 0)(hoff:m.off=false):
  WrS m (Bc.put2 m x).2 k/\(((Bc.put2 m x).1=0/\(Bc.put2 m x).2.off=false/\Bx (Bc.put2 m x).2.bs k=some x)\/
   ((Bc.put2 m x).1=8/\(Bc.put2 m x).2.off=true/\Bx (Bc.put2 m x).2.bs k=none)):=by
 have hk9:k<9:=by omega
 have hbl:=Cx x
 obtain⟨w1,s1,o1⟩:=Sa (m:=m) (k:=k) (o:=0) (l:=Bd x) (by omega) (by omega) hc
 unfold Bc.put2
 rw[show Ee x=k*17+0 by unfold Ee;omega]
 rw[hbl]at s1 o1
 have z1:(Fm (Ce m (k*17+0) (Bd x)).bs k)[16]? =some 0:=by
  have:=H9 m.cut 16
  rw[s1 16,if_neg (by omega),if_neg (by omega)];exact hz
 by_cases h1:C8 m.cut 16=0
 ·rw[if_pos h1]
  have n1:=Jn h1
  obtain⟨m1,hm1⟩:∃m1,m1=Ce m (k*17+0) (Bd x):=⟨_,rfl⟩
  rw[<-hm1]at w1 s1 o1 z1 ⊢
  obtain⟨w2,s2,o2⟩:=Sa (m:=m1) (k:=k) (o:=16) (l:=[165]) (by simp) (by simp;have:=w1.len;omega) w1.cut
  rw[Nat.add_zero]
  refine⟨w1.trans w2,?_⟩
  by_cases h2:C8 m1.cut 1=0
  ·have n2:=Jn h2
   left
   refine⟨h2,?_,?_⟩
   ·rw[o2];simp[n2]
   ·rw[Lh]
    have e:Fm (Ce m1 (k*17+16) [165]).bs k=Bd x++ [165]:=by
     refine Ag5 hbl (fun i hi=>?_) ?_ ?_
     ·rw[s2 i,if_pos hi,s1 i,if_neg (by omega),n1,if_pos (by omega),Nat.sub_zero]
     ·rw[s2 16,if_neg (by omega)]
      simp[n2]
     ·simp[Fm];omega
    rw[e]
    exact Zw x hx k hk
  ·obtain⟨e8,n2⟩:=Jo h2
   right
   refine⟨e8,?_,?_⟩
   ·rw[o2];simp;omega
   ·apply Sp
    rw[s2 16,if_neg (by omega),if_neg (by simp;omega)];exact z1
 ·rw[if_neg h1]
  obtain⟨e8,n1⟩:=Jo h1
  refine⟨w1,.inr ⟨e8,?_,Sp z1⟩⟩
  rw[o1];simp;omega
theorem Adc{m:CM}{x:Ar}{D:List Ar}(h:Lu m.bs D)(hc:-1<=m.cut)(hoff:m.off=false)(hs:x.seq=D.length+1)(hx:J8 x):
  -1<=(Bc m x).2.cut/\(Bc m x).2.bs.length=m.bs.length/\(((Bc m x).1=0/\(Bc m x).2.off=false/\Lu (Bc m x).2.bs (D++ [x]))\/((Bc m x).1=8/\(Bc m x).2.off=true/\Lu (Bc m x).2.bs D)):=by
 obtain⟨k,hk⟩:∃k,(x.seq-1)%9=k:=⟨_,rfl⟩
 have hkD:k=D.length%9:=by rw[<-hk,hs];rfl
 have hk9:k<9:=by omega
 have hl:=h.len
 have hsl:Ee x=k*17:=by unfold Ee;rw[hk]
 unfold Bc
 rw[hsl,hoff,if_pos (Oj (by omega))]
 have fin:∀{m':CM} {p:Nat × CM},WrS m m' k->WrS m' p.2 k->((p.1=0/\p.2.off=false/\Bx p.2.bs k=some x)\/(p.1=8/\p.2.off=true/\Bx p.2.bs k=none))->
   -1<=p.2.cut/\p.2.bs.length=m.bs.length/\((p.1=0/\p.2.off=false/\Lu p.2.bs (D++ [x]))\/(p.1=8/\p.2.off=true/\Lu p.2.bs D)):=by
  intro m' p a b hr
  have ab:=a.trans b
  have ho:∀k',k'<9->k'≠D.length%9->Bx p.2.bs k'=Bx m.bs k':=fun k' _ hk'=>by
   rw[Lh,Lh,ab.oth k' (by omega)]
  refine⟨ab.cut,ab.len,?_⟩
  rcases hr with⟨r1,r2,r3⟩|⟨r1,r2,r3⟩
  ·left;exact⟨r1,r2,zM h ab.len ho (by rw[<-hkD];exact r3) hs hx⟩
  ·right;exact⟨r1,r2,sL h ab.len ho (by rw[<-hkD];exact r3)⟩
 have self:WrS m m k:=⟨rfl,fun _ _=>rfl,hc⟩
 have hget:(Fm m.bs k)[16]? =m.bs[k*17+16]? :=by rw[Lz,if_pos (by omega)]
 have hlt:k*17+16<m.bs.length:=by omega
 by_cases h0:m.bs.getD (k*17+16) 0=0
 ·rw[if_pos h0]
  rw[List.getD_eq_getElem?_getD,List.getElem?_eq_getElem hlt]at h0
  have hz:(Fm m.bs k)[16]? =some 0:=by rw[hget,List.getElem?_eq_getElem hlt];congr 1
  obtain⟨a,b⟩:=Xs hk hx hl hc hz hoff
  exact fin self a b
 ·rw[if_neg h0]
  obtain⟨w1,s1,o1⟩:=Sa (m:=m) (k:=k) (o:=16) (l:=[0]) (by simp) (by simp;omega) hc
  simp only[List.length_singleton]at s1 o1
  by_cases h1:C8 m.cut 1=0
  ·rw[if_pos h1]
   have n1:=Jn h1
   have hz:(Fm (Ce m (k*17+16) [0]).bs k)[16]? =some 0:=by
    rw[s1 16,if_neg (by omega),if_pos (by omega)];rfl
   have hoff1:(Ce m (k*17+16) [0]).off=false:=by rw[o1];simp[n1]
   obtain⟨a,b⟩:=Xs hk hx (by rw[w1.len];exact hl) w1.cut hz hoff1
   exact fin w1 a b
  ·rw[if_neg h1]
   obtain⟨e8,n1⟩:=Jo h1
   have hn:Bt m.cut 1=0:=by omega
   refine⟨w1.cut,w1.len,.inr ⟨e8,?_,?_⟩⟩
   ·show(Ce m (k*17+16) [0]).off=true
    rw[o1];simp;omega
   ·show Lu (Ex m.bs (k*17+16) [0] (Bt m.cut [0].length)) D
    rw[show Bt m.cut ([0]:List UInt8).length=0 from hn,S3]
    exact h
theorem Xq(n:Nat)(h:153<=n):Lu (List.replicate n 0) []:=by
 refine⟨by simpa using h,fun j hj=>by simp at hj,fun k hk=>.inl (Sp ?_),fun j hj=>by simp at hj⟩
 rw[Lz,if_pos (by omega),List.getElem?_replicate,if_pos (by omega)]
end
section
open Go.RowKit
theorem Ih.below{B:Nat}{R:Nat->Prop}{w w':World}{E:Ap}{vp vg ve vf vl:Value}(h:Ih R w E vp vg ve vf vl)(hk:Below B w w')(hd:∀b,R b->b<B):Ih R w' E vp vg ve vf vl:=
 h.keep (Ae.of_below hk) (fun b hb=>by have:=hd b hb;omega)
theorem rF{B:Nat}{R:Nat->Prop}{w w':World}(hR:∀b,R b->b<w.heap.size)(h:Below B w w'):∀b,R b->b<w'.heap.size:=fun b hb=>Nat.lt_of_lt_of_le (hR b hb) h.size
def Gu(E:Ap)(at' p:Int):Bool:=
 if E.edges= [] then true else if p<0\/(E.points.length:Int)<=p then false else if at'= -1 then decide (p∈E.first) else decide ((at',p)∈E.edges)
def En(E:Ap)(p:Int):Int:=if p<0\/(E.points.length:Int)<=p\/p∈E.last then -1 else p
theorem Z6(E:Ap)(p:Int)(h:p<0):En E p= -1:=by simp[En,h]
theorem W6(E:Ap)(p:Int)(h:(E.points.length:Int)<=p):En E p= -1:=by simp[En,h]
theorem W5(E:Ap)(p:Int)(h:p∈E.last):En E p= -1:=by simp[En,h]
theorem qE(E:Ap)(p:Int)(h1:¬p<0)(h2:¬(E.points.length:Int)<=p)(h:p∉E.last):En E p=p:=by simp[En,h,h1,h2]
theorem Z7(E:Ap)(a p:Int)(h:E.edges= []):Gu E a p=true:=by simp[Gu,h]
theorem Tk(E:Ap)(a p:Int)(h:E.edges≠ [])(h2:p<0\/(E.points.length:Int)<=p):Gu E a p=false:=by simp[Gu,h,h2]
theorem W7(E:Ap)(p:Int)(h:E.edges≠ [])(h2:¬(p<0\/(E.points.length:Int)<=p)):Gu E (-1) p=decide (p∈E.first):=by simp[Gu,h,h2]
theorem Z8(E:Ap)(a p:Int)(h:E.edges≠ [])(h2:¬(p<0\/(E.points.length:Int)<=p))(h3:a≠ -1):Gu E a p=decide ((a,p)∈E.edges):=by simp[Gu,h,h2,h3]
theorem Wn{P:Program}{t k e ty:TypeId}(ht:P.underlying t=some (.map k e)){b:Nat}{K:List (Int × Int)}{w:World}(hb:Hv w b K):
  (Builtin.len_ #[t] ty #[.map (some b)]).run P w=.ok (.int .i64 K.length) w:=by
 obtain⟨es,clock,hb,he⟩:=hb
 have hlen:es.size=K.length:=by have:=congrArg List.length he;simpa using this
 rw[<-hlen]
 exact run_len_map (P:=P) (w:=w) t ty b es clock (by simp[Program.mapKeyOf,Program.mapElemOf,ht]) hb
theorem Rs(lo hi:Nat)(E:Ap)(es:List (Int × Int))(w:World)(f:Nat)(at':Int)(bad:Bool)(p:Int)(h:Dk lo hi E es w f at' bad):
  Calls Tryz.prog 161 #[.pointer (some ⟨f,0,none⟩),.int .i64 p] w fun e w'=>e=.returned (.int .i64 (En E p))/\Below w.heap.size w w':=by
 obtain⟨⟨mb,a1,k1,a2,k2,K,f1,f2,f3,f4,f5,f6,f7,f8⟩,f9,f10,f11⟩:=h
 obtain⟨m0,m1,m2,m3,m4,m5,mf⟩:=Pn f1
 have H5:=Aia f5
 clear f1 f2 f3 f4 f5 mf
 go_enter func161,ntmps161
 by_cases h1:p<0
 ·have hF:=Aia (Z6 E p h1)
  go_wp2_with fail
  go_ret
  exact⟨A6 hF.out.symm,Below.refl _ _⟩
 by_cases h2:(E.points.length:Int)<=p
 ·have hF:=Aia (W6 E p h2)
  go_wp2_with fail
  go_ret
  exact⟨A6 hF.out.symm,Below.refl _ _⟩
 go_wp2_with fail
 refine(Jg _ E.last _ p _ H5.out).mono ?_
 rintro e w' ⟨rfl,rfl⟩
 by_cases h3:p∈E.last
 ·have hF:=Aia (W5 E p h3)
  rw[decide_eq_true h3]
  go_wp2_with fail
  go_ret
  exact⟨A6 hF.out.symm,Below.refl _ _⟩
 ·have hF:=Aia (qE E p (by omega) (by omega) h3)
  rw[decide_eq_false h3]
  go_wp2_with fail
  go_ret
  exact⟨A6 hF.out.symm,Below.refl _ _⟩
theorem qG(lo hi:Nat)(E:Ap)(w:World)(f:Nat)(a0:Int)(bad:Bool)(at' p:Int)(h:Dk lo hi E E.edges w f a0 bad):
  Calls Tryz.prog 160 #[.pointer (some ⟨f,0,none⟩),.int .i64 at',.int .i64 p] w fun e w'=>e=.returned (.bool (Gu E at' p))/\Below w.heap.size w w':=by
 obtain⟨⟨mb,a1,k1,a2,k2,K,f1,f2,f3,f4,f5,f6,f7,f8⟩,f9,f10,f11⟩:=h
 obtain⟨m0,m1,m2,m3,m4,m5,mf⟩:=Pn f1
 have hln:=fun ty=>Wn (P:=Tryz.prog) (ty:=ty) pairMap.um f2
 have hlk:=pairMap.lookup w mb K (at',p) f2
 unfold Gd at hlk
 simp only at hlk
 have hKE:K= []↔E.edges= []:=by
  constructor<;>intro h<;>apply List.eq_nil_iff_forall_not_mem.2<;>intro q hq
  ·rw[<-f3,h]at hq;cases hq
  ·rw[f3,h]at hq;cases hq
 have h3:decide ((at',p)∈K)=decide ((at',p)∈E.edges):=decide_eq_decide.2 (f3 (at',p))
 have H3:=Aia h3
 have H4:=Aia f4
 clear f1 f2 f3 f4 f5 mf h3
 go_enter func160,ntmps160
 by_cases h0:E.edges= []
 ·have hF:=Aia (Z7 E at' p h0)
  have hK:=hKE.2 h0
  subst hK
  clear hKE
  go_wp2_with fail
  go_ret
  exact⟨Ah hF.out.symm,Below.refl _ _⟩
 have hKn:0<K.length:=by
  cases K with
  |nil=>exact absurd (hKE.1 rfl) h0
  |cons x K=>simp
 by_cases h1:p<0
 ·have hF:=Aia (Tk E at' p h0 (.inl h1))
  clear h0 hKE
  go_wp2_with fail
  go_ret
  exact⟨Ah hF.out.symm,Below.refl _ _⟩
 by_cases h2:(E.points.length:Int)<=p
 ·have hF:=Aia (Tk E at' p h0 (.inr h2))
  clear h0 hKE
  go_wp2_with fail
  go_ret
  exact⟨Ah hF.out.symm,Below.refl _ _⟩
 by_cases h4:at'= -1
 ·subst h4
  have hF:=Aia (W7 E p h0 (by omega))
  clear h0 hKE
  go_wp2_with fail
  refine(Jg _ E.first _ p _ H4.out).mono ?_
  rintro e w' ⟨rfl,rfl⟩
  go_wp2_with fail
  go_ret
  exact⟨Ah hF.out.symm,Below.refl _ _⟩
 ·have hF:=Aia (Z8 E at' p h0 (by omega) h4)
  have hab:(at'== -1)=false:=by simp[h4]
  clear h0 hKE
  go_wp2_with fail
  go_ret
  exact⟨Ah (H3.out.trans hF.out.symm),Below.refl _ _⟩
theorem Dk.setBad{lo hi:Nat}{E:Ap}{es:List (Int × Int)}{w:World}{f:Nat}{at':Int}{bad:Bool}(b:Bool)(h:Dk lo hi E es w f at' bad):Dk lo hi E es (w.setCell ⟨f,5,none⟩ (.bool b)) f at' b:=by
 obtain⟨⟨mb,a1,k1,a2,k2,K,f1,f2,f3,f4,f5,f6,f7,f8⟩,f9,f10,f11⟩:=h
 have kk:=Ai w f 5 (.bool b)
 exact⟨⟨mb,a1,k1,a2,k2,K,by rw[Am _ f1];simp,f2.keep kk f8,f3,f4.keep kk (fun b hb=>hb.2.2.1),f5.keep kk (fun b hb=>hb.2.2.1),f6,f7,f8⟩,f9,f10,Nat.le_trans f11 kk.size⟩
theorem Dk.setAt{lo hi:Nat}{E:Ap}{es:List (Int × Int)}{w:World}{f:Nat}{at':Int}{bad:Bool}(a:Int)(h:Dk lo hi E es w f at' bad):Dk lo hi E es (w.setCell ⟨f,4,none⟩ (.int .i64 a)) f a bad:=by
 obtain⟨⟨mb,a1,k1,a2,k2,K,f1,f2,f3,f4,f5,f6,f7,f8⟩,f9,f10,f11⟩:=h
 have kk:=Ai w f 4 (.int .i64 a)
 exact⟨⟨mb,a1,k1,a2,k2,K,by rw[Am _ f1];simp,f2.keep kk f8,f3,f4.keep kk (fun b hb=>hb.2.2.1),f5.keep kk (fun b hb=>hb.2.2.1),f6,f7,f8⟩,f9,f10,Nat.le_trans f11 kk.size⟩
theorem I0{lo hi:Nat}{E:Ap}{es:List (Int × Int)}{w:World}{f:Nat}{at':Int}{bad:Bool}(h:Dk lo hi E es w f at' bad):
  w.cell? ⟨f,4,none⟩=some (.int .i64 at')/\w.cell? ⟨f,5,none⟩=some (.bool bad)/\∀o,w.frozen? ⟨f,o,none⟩=false:=by
 obtain⟨⟨mb,a1,k1,a2,k2,K,f1,_⟩,_⟩:=h
 obtain⟨m0,m1,m2,m3,m4,m5,mf⟩:=Pn f1
 exact⟨m4,m5,mf⟩
theorem Vu(lo hi:Nat)(E:Ap)(w:World)(f:Nat)(at':Int)(bad:Bool)(p:Int)(h:Dk lo hi E E.edges w f at' bad):
  Calls Tryz.prog 94 #[.pointer (some ⟨f,0,none⟩),.int .i64 p] w fun e w'=>e=.returned (.tuple #[])/\Dk lo hi E E.edges w' f (En E p) (bad|| !Gu E at' p)/\Ae (· =f) w w':=by
 obtain⟨m4,m5,mf⟩:=I0 h
 have H:=Aia h
 clear h
 go_enter func94,ntmps94
 cases bad
 ·go_wp2_with fail
  refine(qG lo hi E w f at' false at' p H.out).mono ?_
  rintro e w1 ⟨rfl,b1⟩
  have h1:=H.out.keep (Ak b1) (fun _ _ _ h=>h)
  obtain⟨q4,q5,qf⟩:=I0 h1
  have h2:=h1.setBad (!Gu E at' p)
  have k2:Ae (· =f) w (w1.setCell ⟨f,5,none⟩ (.bool (!Gu E at' p))):=((Ak b1).mono (fun _ _ h=>h.elim)).trans (Ai w1 f 5 _)
  have H1:=Aia h2
  have K1:=Aia k2
  clear h1 h2 k2 m4 m5 mf b1 H
  generalize hm:Gu E at' p=m at H1 K1 ⊢
  have HM:=Aia hm
  clear hm
  go_wp2_with fail
  generalize World.setCell _ _ _=w2 at H1 K1 ⊢
  refine(Rs lo hi E E.edges w2 f at' _ p H1.out).mono ?_
  rintro e w3 ⟨rfl,b3⟩
  have h3:=H1.out.keep (Ak b3) (fun _ _ _ h=>h)
  obtain⟨r4,r5,rf⟩:=I0 h3
  have h4:=h3.setAt (En E p)
  have k4:Ae (· =f) w (w3.setCell ⟨f,4,none⟩ (.int .i64 (En E p))):=(K1.out.trans ((Ak b3).mono (fun _ _ h=>h.elim))).trans (Ai w3 f 4 _)
  have H4:=Aia h4
  have K4:=Aia k4
  clear h3 h4 k4 q4 q5 qf H1 K1 b3
  go_wp2_with fail
  go_end0
  exact⟨rfl,by rw[Bool.false_or,HM.out];exact H4.out,K4.out⟩
 ·have h2:=H.out.setBad true
  have k2:=Ai w f 5 (.bool true)
  have H1:=Aia h2
  have K1:=Aia k2
  clear h2 k2
  go_wp2_with fail
  generalize World.setCell _ _ _=w2 at H1 K1 ⊢
  refine(Rs lo hi E E.edges w2 f at' _ p H1.out).mono ?_
  rintro e w3 ⟨rfl,b3⟩
  have h3:=H1.out.keep (Ak b3) (fun _ _ _ h=>h)
  obtain⟨r4,r5,rf⟩:=I0 h3
  have h4:=h3.setAt (En E p)
  have k4:Ae (· =f) w (w3.setCell ⟨f,4,none⟩ (.int .i64 (En E p))):=(K1.out.trans ((Ak b3).mono (fun _ _ h=>h.elim))).trans (Ai w3 f 4 _)
  have H4:=Aia h4
  have K4:=Aia k4
  clear h3 h4 k4 m4 m5 mf H1 K1 b3
  go_wp2_with fail
  go_end0
  exact⟨rfl,H4.out,K4.out⟩
theorem qH(lo hi:Nat)(E:Ap)(w:World)(f:Nat)(at':Int)(bad:Bool)(h:Dk lo hi E E.edges w f at' bad):
  Calls Tryz.prog 238 #[.pointer (some ⟨f,0,none⟩)] w fun e w'=>e=.returned (.bool (!bad))/\Dk lo hi E E.edges w' f at' false/\Ae (· =f) w w':=by
 obtain⟨m4,m5,mf⟩:=I0 h
 have H:=Aia (h.setBad false)
 have K:=Aia (Ai w f 5 (.bool false))
 clear h
 go_enter func238,ntmps238
 go_wp2_with fail
 go_ret
 exact⟨rfl,H.out,K.out⟩
end
section
open Go.ChangeShapes Go.WideShapes Go.ChangeAt Go.RowKit
def Xj(t:List UInt8):DataW Unit:=.iface "*errors.errorString" (.ptr (.agg [.lit (.string t)]))
theorem Tryz.starE: "*"++ "errors.errorString"= "*errors.errorString":=by decide
theorem Tryz.rowE(u:TypeId)(h:Tryz.prog.typeName? 3 u=some "*errors.errorString"):u=372:=
 typeName_ptr_named (nm:= "errors.errorString") (by rw[starE];kernel_rfl) (by kernel_rfl) (by decide) u (by rw[starE];exact h)
theorem Tryz.cellsE:Tryz.prog.cellsOf 374=1:=by kernel_rfl
theorem Tryz.cellsS:Tryz.prog.cellsOf 9=1:=by kernel_rfl
section
variable {P:Program} {ti tp te ts:TypeId} {ms:Array (String × TypeId)} {f:Field}
theorem X8(hi:P.underlying ti=some (.interface ms))(hrow:∀u,P.typeName? 3 u=some "*errors.errorString"->u=tp)(hp:P.underlying tp=some (.pointer te))(he:P.underlying te=some (.struct #[f]))(hft:f.type=ts)(hfo:f.offset=0)
  (hs:P.underlying ts=some .string) (hc:P.cellsOf te=1) (hcs:P.cellsOf ts=1) {W:World}:
  ∀(L:List (String × List UInt8)) (gs:List Nat),gs.length=L.length->(∀k (h1:k<L.length) (h2:k<gs.length),P.globalNamed (L[k]).1=some gs[k]/\(P.globals[gs[k]]?).map (·.type)=some ti)->
  ∀ps,DataW.LaidVars P W (L.map fun x=>(x.1,Xj x.2)) ps->ps.Nodup->
  (∀b off,MemPlace.cell b off∈ps->(∃c t,W.heap[b]? =some (.cells c t (0,0)))/\∀u v,W.cell? ⟨b,off,none⟩=some (.iface u v)->Value.okWide P W .any 0 u v)->
  ∃bs:List Addr,bs.length=L.length/\bs.Nodup/\(∀a∈bs,a.spot=none/\MemPlace.cell a.block a.off∈ps)/\∀k (h1:k<L.length) (h2:k<gs.length) (h3:k<bs.length),W.cell? ⟨gs[k],0,none⟩=some (.iface tp (.pointer (some bs[k])))
 |[],gs,_,_,ps,_,_,_=>⟨[],rfl,List.nodup_nil,(fun a ha=>by simp at ha),(fun k h=>by simp at h)⟩
 |x::L,[],hl,_,_,_,_,_=>by simp at hl
 |x::L,g::gs,hl,hg,ps,hv,hnd,hrows=>by
  obtain⟨g0,t0,cs0,f0,p0,q0,hg0,ht0,hv0,hd0,hr0,rfl⟩:=hv
  have hgx:P.globalNamed x.1=some g/\(P.globals[g]?).map (·.type)=some ti:=hg 0 (by simp) (by simp)
  obtain rfl:g=g0:=Option.some.inj (hgx.1.symm.trans hg0)
  obtain rfl:ti=t0:=Option.some.inj (hgx.2.symm.trans ht0)
  obtain⟨l0⟩:=cs0
  have ok0:∀u v,l0= [.iface u v]->Value.okWide P W .any 0 u v:=fun u v e=>by
   subst e
   exact(hrows g 0 (by simp[MemPlace.row])).2 u v (by simpa using World.var?_cell hg0 hv0 0)
  obtain⟨a0,s0,rfl,hc0,hs0,hz0,rfl⟩:=errorString_of_trod hi hrow hp he hft hfo hs hc hcs hd0 ok0
  have hin:MemPlace.cell a0.block a0.off∈MemPlace.row a0 1:=by simp[MemPlace.row]
  obtain⟨bs,h1,h2,h3,h4⟩:=X8 hi hrow hp he hft hfo hs hc hcs L gs (by simpa using hl) (fun k q1 q2=>by
   have:=hg (k+1) (by simpa using q1) (by simpa using q2)
   simpa using this) q0 hr0 ((List.nodup_append.1 hnd).2.1) (fun b off hm=>hrows b off (List.mem_append_right _ hm))
  refine⟨a0::bs,by simp[h1],List.nodup_cons.2 ⟨fun hm=>?_,h2⟩,fun a ha=>?_,fun k q1 q2 q3=>?_⟩
  ·have hq:=(h3 a0 hm).2
   exact(List.nodup_append.1 hnd).2.2 _ (List.mem_append_right _ hin) _ hq rfl
  ·rcases List.mem_cons.1 ha with rfl|ha
   ·exact⟨World.cell?_spot hc0,List.mem_append_left _ (List.mem_append_right _ hin)⟩
   ·exact⟨(h3 a ha).1,List.mem_append_right _ (h3 a ha).2⟩
  ·cases k with
   |zero=>simpa using World.var?_cell hg0 hv0 0
   |succ k=>exact h4 k (by simpa using q1) (by simpa using q2) (by simpa using q3)
end
def Rh:List (String × List UInt8):=[("nightwatch/api.ErrText",[110,105,103,104,116,119,97,116,99,104,58,32,116,101,120,116]),("nightwatch/api.ErrBound",[110,105,103,104,116,119,97,116,99,104,58,32,98,111,117,110,100]),
 ("nightwatch/api.ErrShape",[110,105,103,104,116,119,97,116,99,104,58,32,115,104,97,112,101]),("nightwatch/api.ErrName",[110,105,103,104,116,119,97,116,99,104,58,32,110,97,109,101]),
 ("nightwatch/api.ErrNone",[110,105,103,104,116,119,97,116,99,104,58,32,110,111,110,101]),("nightwatch/api.ErrExist",[110,105,103,104,116,119,97,116,99,104,58,32,101,120,105,115,116]),
 ("nightwatch/api.ErrFull",[110,105,103,104,116,119,97,116,99,104,58,32,102,117,108,108]),("nightwatch/api.ErrOff",[110,105,103,104,116,119,97,116,99,104,58,32,111,102,102]),
 ("nightwatch/api.ErrIdle",[110,105,103,104,116,119,97,116,99,104,58,32,105,100,108,101]),("nightwatch/api.ErrHeld",[110,105,103,104,116,119,97,116,99,104,58,32,104,101,108,100]),("nightwatch/api.ErrReset",[110,105,103,104,116,119,97,116,99,104,58,32,114,101,115,101,116])]
def Oc:List Nat:=[1,0,2,3,4,5,6,7,8,9,10]
def xU:DataW Unit:=.iface "internal/reflectlite.rtype" (.agg [.ptr (.lit (.string [101,114,114,111,114]))])
theorem Tryz.sentNames:Rh.map (fun x=>Tryz.prog.globalNamed x.1)=Oc.map some:=by kernel_rfl
theorem Tryz.sentTypes:Oc.map (fun g=>(Tryz.prog.globals[g]?).map (·.type))=Oc.map (fun _=>some 25):=by kernel_rfl
theorem Tryz.etName:Tryz.prog.globalNamed "errors.errorType"=some 11:=by kernel_rfl
theorem Tryz.rtName:(Tryz.prog.cutTypes.find? (·.1== "internal/reflectlite.rtype")).map (·.2)=some 283:=by kernel_rfl
theorem Tryz.oneError:((List.range 414).filter fun t=>Tryz.prog.rowNamed t [101,114,114,111,114])= [25]:=by kernel_rfl
theorem Tryz.nTypes:Tryz.prog.types.size=414:=by kernel_rfl
theorem Tryz.handleE:typeHandle Tryz.prog 25=.pointer (some ⟨25,25,none⟩):=by kernel_rfl
end
end Go.Proofs.YtikehilbmldadaaGreatDoor
