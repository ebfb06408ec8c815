import Derived.Test.YtikehilbmldadaaGreatDoorV20
import Derived.Test.YtikehilbmldadaaGreatDoorVShelf
import Derived.Lib.AppendIntMem
import Derived.Deep.RegionHeld3
import Derived.Lib.AtoiAllCases
import Derived.Lib.AtoiErrMem
set_option maxHeartbeats 4000000
set_option maxRecDepth 100000
set_option linter.unusedVariables false
open Go.Proofs.Tryz Go.Proofs.YtikehilbmldadaaGreatDoor.Tryz
namespace Go.Proofs.YtikehilbmldadaaGreatDoor
open Go.RowKit
def J4(B:Nat)(w:World):Prop:=Lib.TabBelow Tryz.prog B w "internal/strconv.uint64pow10" .u64 Lib.pow10Tab
theorem J4.low{B C:Nat}{w w':World}(h:J4 B w)(b:Below C w w')(hC:B<=C):J4 B w':=fun W hW=>h W ((b.mono hC).trans hW)
theorem vT(w:World)(k:Nat)(os:Array Obj):Below w.heap.size w (Sort.grow (w.drewN k) os):=by
 refine⟨rfl,rfl,rfl,?_,fun i hi=>?_⟩
 ·show w.heap.size<=(w.heap++os).size
  rw[Array.size_append];omega
 ·show(w.heap++os)[i]? =w.heap[i]?
  rw[Array.getElem?_append_left hi]
theorem K3(B:Nat)(n:Int)(w:World)(hT:J4 B w)(h0:-9223372036854775808<=n)(h1:n<=9223372036854775807):
  Calls Tryz.prog 100 #[.int .i64 n] w fun e w'=>e=.returned (.string ⟨(Lib.itoa n).toArray⟩)/\Below w.heap.size w w':=by
 refine(Tryz.strconv_Itoa n h0 h1 w (hT w (Below.refl _ _))).mono ?_
 rintro e w' ⟨rfl,k,os,rfl⟩
 exact⟨rfl,vT w k os⟩
inductive W1 where
 |str (s:ByteArray)
 |num (n:Int)
def B3:W1->List UInt8
 |.str s=>s.data.toList
 |.num n=>Lib.itoa n
def Tp:W1->Value
 |.str s=>.iface 9 (.string s)
 |.num n=>.iface 3 (.int .i64 n)
def xE:W1->Prop
 |.str _=>True
 |.num n=>-9223372036854775808<=n/\n<=9223372036854775807
def Ob(i:Nat)(x:W1):List UInt8:=if i=0 then B3 x else 32::B3 x
def upB(ws:List W1)(k:Nat):List UInt8:=(List.range k).flatMap (fun i=>Ob i (ws.getD i (.num 0)))
def Ca(ws:List W1):List UInt8:=upB ws ws.length++ [10]
theorem gX(ws:List W1)(k:Nat)(hk:k<ws.length):upB ws (k+1)=upB ws k++Ob k ws[k]:=by
 unfold upB
 rw[List.range_succ,List.flatMap_append]
 simp[hk]
theorem Ab9(ws:List W1):∀(m k:Nat),(upB ws k).length<=(upB ws (k+m)).length
 |0,k=>Nat.le_refl _
 |m+1,k=>by
  refine Nat.le_trans (Ab9 ws m k) ?_
  show _<=(upB ws (k+m+1)).length
  unfold upB
  rw[List.range_succ,List.flatMap_append,List.length_append]
  omega
theorem Ks(ws:List W1){k:Nat}(hk:k<=ws.length):(upB ws k).length<(Ca ws).length:=by
 have:=Ab9 ws (ws.length-k) k
 rw[show k+(ws.length-k)=ws.length by omega]at this
 unfold Ca
 rw[List.length_append,List.length_singleton]
 omega
theorem Tryz.taStr(s:ByteArray)(W:World):(Instr.typeAssert (.iface 9 (.string s)) 20 9 true).run Tryz.prog W=.ok (.tuple #[.string s,.bool true]) W:=by kernel_rfl
theorem Tryz.taIntS(n:Int)(W:World):(Instr.typeAssert (.iface 3 (.int .i64 n)) 20 9 true).run Tryz.prog W=.ok (.tuple #[.string ByteArray.empty,.bool false]) W:=by kernel_rfl
theorem Tryz.taInt(n:Int)(W:World):(Instr.typeAssert (.iface 3 (.int .i64 n)) 20 3 true).run Tryz.prog W=.ok (.tuple #[.int .i64 n,.bool true]) W:=by kernel_rfl
structure PG (B b:Nat) (l:List UInt8) (w0 w:World):Prop where
 pg:Pg B b l w
 bel:Below B w0 w
 oth:Oth b w0 w
theorem PG.on{B b:Nat}{l l':List UInt8}{w0 w w':World}(h:PG B b l w0 w)(p:Pg B b l' w')(b1:Below B w w')(o:Oth b w w'):PG B b l' w0 w':=⟨p,h.bel.trans b1,h.oth.trans o⟩
theorem PG.below{B b:Nat}{l:List UInt8}{w0 w w':World}(h:PG B b l w0 w)(k:Below w.heap.size w w'):PG B b l w0 w':=by
 have hl:=h.pg.lt
 exact⟨h.pg.below k,h.bel.trans (k.mono (by omega)),h.oth.trans (Oth.below k)⟩
theorem gJ(cs:Array Value):¬xZ (.cells cs 20):=by
 show ¬(20=5)
 decide
theorem Agx{w:World}{wb:Nat}{ws:List W1}{T:TypeId}(h:w.heap[wb]? =some (.cells (ws.map Tp).toArray T))(k:Nat)(hk:k<ws.length):w.cell? ⟨wb,k,none⟩=some (Tp ws[k]):=by
 rw[cell_of_row w wb k _ _ _ h]
 simp[hk]
theorem Rl(B b:Nat)(l:List UInt8)(ws:List W1)(wb:Nat)(w:World)(h:Pg B b l w)(hB:B<=w.heap.size)(hT:J4 B w)(hok:∀x∈ws,xE x)(hv:w.heap[wb]? =some (.cells (ws.map Tp).toArray 20))(hne:wb≠b)(hlen:l.length+(Ca ws).length<=1000000)(hn:ws.length<=1000):
  Calls Tryz.prog 58 #[.pointer (some ⟨b,0,none⟩),.slice (some ⟨wb,0,none⟩) ws.length ws.length] w fun e w'=>e=.returned (.tuple #[])/\PG B b (l++Ca ws) w w':=by
 have HV:=Aia hv
 have HT:=Aia hT
 have HOK:=Aia hok
 have HLN:=Aia hlen
 have hP0:PG B b (l++upB ws 0) w w:=by
  rw[show upB ws 0= [] from rfl,List.append_nil]
  exact⟨h,Below.refl _ _,Oth.refl _ _⟩
 have HP0:=Aia hP0
 have ta1:=taStr
 have ta2:=taIntS
 have ta3:=taInt
 clear h hv hT hok hlen hP0
 go_enter func58,ntmps58
 go_wp2_with fail
 go_loopw [10] (fun s wr=>∃k:Nat,k<=ws.length/\s=.int .i64 k/\Hid (PG B b (l++upB ws k) w wr)) (fun s _=>ws.length-(intOf s).toNat)
 case atStart=>exact⟨0,Nat.zero_le _,rfl,HP0⟩
 case round=>
  obtain⟨k,hk,rfl,hp⟩:=hrel
  clear HP0
  by_cases hlt:k<ws.length
  ·have q:=Agx (hp.out.oth.block _ _ HV.out hne (gJ _)) k hlt
   have HUP:=Aia (gX ws k hlt)
   have HBw:=Aia hB
   have hwo:=HOK.out ws[k] (List.getElem_mem hlt)
   cases hw:ws[k] with
   |str s=>
    rw[hw]at q HUP
    unfold Tp at q
    clear hw hwo
    by_cases hk0:k=0
    ·have hkz:¬(0:Int)<(k:Int):=by omega
     have e0:Ob k (.str s)=B3 (.str s):=if_pos hk0
     rw[e0]at HUP
     clear hk0 e0
     go_wp2_with fail
     have HWs:=Aia (fun W (l':List UInt8) (hp:Pg B b l' W) (hl:l'.length+s.size<=1000000000) (hBW:B<=W.heap.size)=>Hq B b l' s W hp hl hBW)
     refine(HWs.out _ _ hp.out.pg (by have:=HLN.out;have:=Ks ws (k:=k+1) hlt;rw[HUP.out]at this;have e:s.data.toList.length=s.size:=(by rw[Array.length_toList];rfl);simp only[List.length_append,B3]at this ⊢;(try simp only[List.length_cons,List.length_nil]at this ⊢);omega) (Nat.le_trans HBw.out hp.out.bel.size)).mono ?_
     rintro e w3 ⟨rfl,p3,b3,o3⟩
     have nx:=Aia (show PG B b (l++upB ws (k+1)) w w3 from by
      have h3:=hp.out.on p3 b3 o3
      rw[HUP.out]
      simpa [B3,List.append_assoc] using h3)
     clear p3 b3 o3 hp
     go_wp2_with fail
     go_roundw
     case rel=>exact⟨k+1,by omega,by go_num,nx⟩
     case measure=>simp[intOf];omega
    ·have hkz:(0:Int)<(k:Int):=by omega
     have e0:Ob k (.str s)=32::B3 (.str s):=if_neg hk0
     rw[e0]at HUP
     have HWb:=Aia (Ln B b _ 32 wr hp.out.pg (by have:=HLN.out;have:=Ks ws hk;rw[List.length_append];omega) (Nat.le_trans hB hp.out.bel.size))
     clear hk0 e0
     go_wp2_with fail
     refine HWb.out.mono ?_
     rintro e w2 ⟨rfl,p2,b2,o2⟩
     have hp2:=Aia (hp.out.on p2 b2 o2)
     clear p2 b2 o2 HWb
     go_wp2_with fail
     have HWs:=Aia (fun W (l':List UInt8) (hp:Pg B b l' W) (hl:l'.length+s.size<=1000000000) (hBW:B<=W.heap.size)=>Hq B b l' s W hp hl hBW)
     refine(HWs.out _ _ hp2.out.pg (by have:=HLN.out;have:=Ks ws (k:=k+1) hlt;rw[HUP.out]at this;have e:s.data.toList.length=s.size:=(by rw[Array.length_toList];rfl);simp only[List.length_append,B3]at this ⊢;(try simp only[List.length_cons,List.length_nil]at this ⊢);omega) (Nat.le_trans HBw.out hp2.out.bel.size)).mono ?_
     rintro e w3 ⟨rfl,p3,b3,o3⟩
     have nx:=Aia (show PG B b (l++upB ws (k+1)) w w3 from by
      have h3:=hp2.out.on p3 b3 o3
      rw[HUP.out]
      simpa [B3,List.append_assoc] using h3)
     clear p3 b3 o3 hp2
     go_wp2_with fail
     go_roundw
     case rel=>exact⟨k+1,by omega,by go_num,nx⟩
     case measure=>simp[intOf];omega
   |num n=>
    rw[hw]at q HUP hwo
    unfold Tp at q
    have HON:Hid (-9223372036854775808<=n/\n<=9223372036854775807):=hwo
    clear hw hwo
    by_cases hk0:k=0
    ·have hkz:¬(0:Int)<(k:Int):=by omega
     have e0:Ob k (.num n)=B3 (.num n):=if_pos hk0
     rw[e0]at HUP
     clear hk0 e0
     have HIt:=Aia (fun W (hB:Below B w W)=>K3 B n W (HT.out.low hB (Nat.le_refl _)) HON.out.1 HON.out.2)
     have HWs:=Aia (fun W (l':List UInt8) (hp:Pg B b l' W) (hl:l'.length+(⟨(Lib.itoa n).toArray⟩:ByteArray).size<=1000000000) (hBW:B<=W.heap.size)=>Hq B b l' ⟨(Lib.itoa n).toArray⟩ W hp hl hBW)
     have hlz:=Aia (show((l++upB ws k):List UInt8).length+(⟨(Lib.itoa n).toArray⟩:ByteArray).size<=1000000000 from by have:=HLN.out;have:=Ks ws (k:=k+1) hlt;rw[HUP.out]at this;have e:(⟨(Lib.itoa n).toArray⟩:ByteArray).size=(Lib.itoa n).length:=(by simp[ByteArray.size]);rw[e];simp only[List.length_append,B3]at this ⊢;(try simp only[List.length_cons,List.length_nil]at this ⊢);omega)
     obtain⟨S,hS⟩:∃S:ByteArray,S=⟨(Lib.itoa n).toArray⟩:=⟨_,rfl⟩
     rw[<-hS]at HIt HWs hlz
     have HSS:=Aia hS
     clear hS
     go_upto_region 11 with fail
     go_region_held3 (fun w'=>True)
      (exact trivial)
      (first|(go_at_call 100;refine(HIt.out _ ?_).mono ?_;(repeat(first|exact hp.out.bel|refine Below.drew ?_));rintro e wI ⟨rfl,b2⟩;have g2:Below wr.heap.size wr wI:=(by repeat(first|exact b2|refine Below.drew ?_|refine Below.trans ?_ b2|exact Below.refl _ _)))|(go_at_call 99;refine(HWs.out _ (l++upB ws k) ?_ hlz.out ?_).mono ?_;(repeat(first|exact(hp.out.below g2).pg|refine Pg.below ?_ ((Below.refl _ _).drew)|exact Nat.le_trans HBw.out (hp.out.below g2).bel.size));rintro e w3 ⟨rfl,p3,b3,o3⟩))
     all_goals
      have nx:=Aia (show PG B b (l++upB ws (k+1)) w w3 from by
       have h3:=(hp.out.below g2).on p3 b3 o3
       rw[HUP.out]
       rw[HSS.out]at h3
       simpa [B3,List.append_assoc] using h3)
      clear p3 b3 o3 g2
      go_wp2_with fail
      go_roundw
      case rel=>exact⟨k+1,by omega,by go_num,nx⟩
      case measure=>simp[intOf];omega
    ·have hkz:(0:Int)<(k:Int):=by omega
     have e0:Ob k (.num n)=32::B3 (.num n):=if_neg hk0
     rw[e0]at HUP
     have HWb:=Aia (Ln B b _ 32 wr hp.out.pg (by have:=HLN.out;have:=Ks ws hk;rw[List.length_append];omega) (Nat.le_trans hB hp.out.bel.size))
     clear hk0 e0
     go_wp2_with fail
     refine HWb.out.mono ?_
     rintro e w2 ⟨rfl,p2,b2,o2⟩
     have hp2:=Aia (hp.out.on p2 b2 o2)
     clear p2 b2 o2 HWb
     have HIt:=Aia (fun W (hB:Below B w W)=>K3 B n W (HT.out.low hB (Nat.le_refl _)) HON.out.1 HON.out.2)
     have HWs:=Aia (fun W (l':List UInt8) (hp:Pg B b l' W) (hl:l'.length+(⟨(Lib.itoa n).toArray⟩:ByteArray).size<=1000000000) (hBW:B<=W.heap.size)=>Hq B b l' ⟨(Lib.itoa n).toArray⟩ W hp hl hBW)
     have hlz:=Aia (show((l++upB ws k++ [32]):List UInt8).length+(⟨(Lib.itoa n).toArray⟩:ByteArray).size<=1000000000 from by have:=HLN.out;have:=Ks ws (k:=k+1) hlt;rw[HUP.out]at this;have e:(⟨(Lib.itoa n).toArray⟩:ByteArray).size=(Lib.itoa n).length:=(by simp[ByteArray.size]);rw[e];simp only[List.length_append,B3]at this ⊢;(try simp only[List.length_cons,List.length_nil]at this ⊢);omega)
     obtain⟨S,hS⟩:∃S:ByteArray,S=⟨(Lib.itoa n).toArray⟩:=⟨_,rfl⟩
     rw[<-hS]at HIt HWs hlz
     have HSS:=Aia hS
     clear hS
     go_upto_region 11 with fail
     go_region_held3 (fun w'=>True)
      (exact trivial)
      (first|(go_at_call 100;refine(HIt.out _ ?_).mono ?_;(repeat(first|exact hp2.out.bel|refine Below.drew ?_));rintro e wI ⟨rfl,b2⟩;have g2:Below w2.heap.size w2 wI:=(by repeat(first|exact b2|refine Below.drew ?_|refine Below.trans ?_ b2|exact Below.refl _ _)))|(go_at_call 99;refine(HWs.out _ (l++upB ws k++ [32]) ?_ hlz.out ?_).mono ?_;(repeat(first|exact(hp2.out.below g2).pg|refine Pg.below ?_ ((Below.refl _ _).drew)|exact Nat.le_trans HBw.out (hp2.out.below g2).bel.size));rintro e w3 ⟨rfl,p3,b3,o3⟩))
     all_goals
      have nx:=Aia (show PG B b (l++upB ws (k+1)) w w3 from by
       have h3:=(hp2.out.below g2).on p3 b3 o3
       rw[HUP.out]
       rw[HSS.out]at h3
       simpa [B3,List.append_assoc] using h3)
      clear p3 b3 o3 g2
      go_wp2_with fail
      go_roundw
      case rel=>exact⟨k+1,by omega,by go_num,nx⟩
      case measure=>simp[intOf];omega
  ·have hkk:k=ws.length:=by omega
   have HWb:=Aia (Ln B b _ 10 wr hp.out.pg (by have:=HLN.out;have:=Ks ws hk;rw[List.length_append];omega) (Nat.le_trans hB hp.out.bel.size))
   have HKK:=Aia hkk
   clear hkk
   go_wp2_with fail
   refine HWb.out.mono ?_
   rintro e w2 ⟨rfl,p2,b2,o2⟩
   have hp2:=Aia (hp.out.on p2 b2 o2)
   clear p2 b2 o2 HWb
   go_wp2_with fail
   go_end0
   refine⟨rfl,?_⟩
   have:=hp2.out
   rw[HKK.out,List.append_assoc]at this
   exact this
def Fc(l:List UInt8):ByteArray:=⟨l.toArray⟩
theorem Pk(l:List UInt8):(Fc l).data.toList=l:=by simp[Fc]
theorem yS(l:List UInt8):(Fc l).size=l.length:=by simp[Fc,ByteArray.size]
theorem Afp(s:ByteArray):Fc s.data.toList=s:=by simp[Fc]
theorem Abq(s:ByteArray)(a b:Nat):(s.extract a b).data.toList=(s.data.toList.drop a).take (b-a):=by
 rw[ByteArray.data_extract,Array.toList_extract]
def Dz(s:ByteArray):Option Nat:=
 match Lib.atoiAll s.data.toList with
 |.ok v=>if s.size<=13/\0<=v/\Lib.itoa v=s.data.toList then some v.toNat else none
 |_=>none
structure Ra (B:Nat) (w:World):Prop where
 tab:J4 B w
 es:∃t p,w.cell? ⟨13,0,none⟩=some (.iface t p)
 er:∃t p,w.cell? ⟨14,0,none⟩=some (.iface t p)
 low:13<B/\14<B
theorem Ra.below{B C:Nat}{w w':World}(h:Ra B w)(b:Below C w w')(hC:B<=C):Ra B w':=by
 obtain⟨t,p,h1⟩:=h.es
 obtain⟨t',p',h2⟩:=h.er
 have hl:=h.low
 exact⟨h.tab.low b hC,⟨t,p,by rw[b.cell (p:=⟨13,0,none⟩) (show 13<C by omega)];exact h1⟩,⟨t',p',by rw[b.cell (p:=⟨14,0,none⟩) (show 14<C by omega)];exact h2⟩,hl⟩
theorem tN(B:Nat)(s:ByteArray)(hs:s.size<=100000)(w:World)(hN:Ra B w)(hB:B<=w.heap.size):
  Calls Tryz.prog 112 #[.string s] w fun e w'=>∃n,e=.returned (.tuple #[.int .i64 n,.bool (Dz s).isSome])/\(∀k,Dz s=some k->n=k)/\Below w.heap.size w w':=by
 have HN:=Aia hN
 have HB:=Aia hB
 cases hA:Lib.atoiAll s.data.toList
 case ok v=>
  obtain⟨b0,b1⟩:=Lib.atoiAll_bounds hA
  have HC:=Aia (Tryz.strconv_Atoi_ok s (by omega) v hA w)
  have HNV:=Aia (show Dz s=if s.size<=13/\0<=v/\Lib.itoa v=s.data.toList then some v.toNat else none from by unfold Dz;rw[hA])
  have HIT:=Aia (fun W (hW:Below w.heap.size w W)=>K3 B v W ((hN.below hW hB).tab) b0 b1)
  clear hA hN b0 b1 hB hs
  go_enter func112,ntmps112
  go_wp2_with fail
  refine HC.out.mono ?_
  rintro e w1 ⟨rfl,hw⟩
  have hb1:Below w.heap.size w w1:=by
   rcases hw with rfl|⟨t,rfl⟩
   ·exact Below.refl _ _
   ·exact Lib.bytesWorld_below _ _ _
  clear hw HC
  have HI:=Aia (HIT.out w1 hb1)
  clear HIT
  by_cases h13:(s.size:Int)<=13
  ·by_cases h0:0<=v
   ·obtain⟨z,hz⟩:∃z,(Lib.itoa v==s.toList)=z:=⟨_,rfl⟩
    have HZ:=Aia hz
    have H13:=Aia (show s.size<=13 from by omega)
    have H0:=Aia h0
    have hdat:(Lib.itoa v=s.data.toList)↔z=true:=by
     rw[<-HZ.out,beq_iff_eq,ByteArray.toList_eq]
    have HD:=Aia hdat
    clear hdat
    have HR:Hid (z=(Dz s).isSome):=Aia (by
     rw[HNV.out]
     cases z
     ·rw[if_neg (fun hh=>by have:=HD.out.1 hh.2.2;cases this)];rfl
     ·rw[if_pos ⟨H13.out,H0.out,HD.out.2 rfl⟩];rfl)
    have HK:Hid (∀k,Dz s=some k->v=k):=Aia (by
     intro k hk
     rw[HNV.out]at hk
     split at hk
     ·have:=Option.some.inj hk
      have:=H0.out
      omega
     ·cases hk)
    go_wp2_with fail
    refine HI.out.mono ?_
    rintro e w2 ⟨rfl,b2⟩
    have hb2:=hb1.trans (b2.mono hb1.size)
    go_wp2_with fail
    refine bodyPost_ret (results_tmp2 rfl _ _ _) rfl ?_
    exact⟨_,by rw[<-HR.out];rfl,HK.out,hb2⟩
   ·have HR:Hid (Dz s=none):=Aia (by rw[HNV.out,if_neg (fun hh=>h0 hh.2.1)])
    clear HNV
    go_wp2_with fail
    refine bodyPost_ret (results_tmp2 rfl _ _ _) rfl ?_
    exact⟨_,by rw[HR.out];rfl,(fun k hk=>by rw[HR.out]at hk;cases hk),hb1⟩
  ·have HR:Hid (Dz s=none):=Aia (by rw[HNV.out,if_neg (fun hh=>h13 (by omega))])
   clear HNV
   go_wp2_with fail
   refine bodyPost_ret (results_tmp2 rfl _ _ _) rfl ?_
   exact⟨_,by rw[HR.out];rfl,(fun k hk=>by rw[HR.out]at hk;cases hk),hb1⟩
 case range=>
  obtain⟨t,p,her⟩:=hN.er
  have HR:Hid (Dz s=none):=Aia (by unfold Dz;rw[hA])
  have HC:=Aia (Tryz.strconv_Atoi_range s (by omega) hA (.iface t p) w her (.inr ⟨_,_,rfl⟩))
  clear hA hN her hB hs
  go_enter func112,ntmps112
  go_wp2_with fail
  refine HC.out.mono ?_
  rintro e w1 ⟨N,rfl,_,_,hb1⟩
  clear HC
  go_wp2_with fail
  refine bodyPost_ret (results_tmp2 rfl _ _ _) rfl ?_
  exact⟨_,by rw[HR.out];rfl,(fun k hk=>by rw[HR.out]at hk;cases hk),hb1⟩
 all_goals
  obtain⟨t,p,hes⟩:=hN.es
  have HR:Hid (Dz s=none):=Aia (by unfold Dz;rw[hA])
  have HC:=Aia (strconv_Atoi_bad s (by omega) (fun v hv=>by rw[hA]at hv;cases hv) (fun hv=>by rw[hA]at hv;cases hv) (.iface t p) w hes (.inr ⟨_,_,rfl⟩))
  clear hA hN hes hB hs
  go_enter func112,ntmps112
  go_wp2_with fail
  refine HC.out.mono ?_
  rintro e w1 ⟨N,rfl,_,_,hb1⟩
  clear HC
  go_wp2_with fail
  refine bodyPost_ret (results_tmp2 rfl _ _ _) rfl ?_
  exact⟨_,by rw[HR.out];rfl,(fun k hk=>by rw[HR.out]at hk;cases hk),hb1⟩
def Eu(c:UInt8):Bool:=decide (48<=c.toNat/\c.toNat<=57)
def dval(l:List UInt8):Nat:=l.foldl (fun a c=>a*10+(c.toNat-48)) 0
theorem Kr(l:List UInt8)(c:UInt8):dval (l++ [c])=dval l*10+(c.toNat-48):=by simp[dval]
theorem P1:∀(n:Nat) (l:List UInt8),l.length=n->(∀c∈l,Eu c=true)->dval l<10 ^ n
 |0,l,hl,_=>by obtain rfl:=List.eq_nil_of_length_eq_zero hl;simp[dval]
 |n+1,l,hl,h=>by
  have hne:l≠ []:=by intro e;rw[e]at hl;simp at hl
  have hs:=List.dropLast_concat_getLast hne
  have h1:=P1 n l.dropLast (by rw[List.length_dropLast];omega) (fun c hc=>h c (List.dropLast_subset _ hc))
  have h2:=h _ (List.getLast_mem hne)
  simp only[Eu,decide_eq_true_eq]at h2
  rw[<-hs,Kr,Nat.pow_succ]
  omega
theorem gB(i:Nat)(h:i<10):(UInt8.ofNat (48+i)).toNat=48+i:=by
 rw[UInt8.toNat_ofNat'];omega
theorem Gk(u:Nat):∀c∈Lib.decDigits u,Eu c=true:=by
 induction u using Nat.strongRecOn with
 |ind u ih=>
  intro c hc
  rw[Lib.decDigits]at hc
  split at hc
  ·next h=>
   obtain rfl:=List.mem_singleton.1 hc
   simp only[Eu,decide_eq_true_eq,gB u h];omega
  ·next h=>
   rcases List.mem_append.1 hc with hc|hc
   ·exact ih (u/10) (by omega) c hc
   ·obtain rfl:=List.mem_singleton.1 hc
    simp only[Eu,decide_eq_true_eq,gB (u%10) (by omega)];omega
theorem V2(u:Nat):dval (Lib.decDigits u)=u:=by
 induction u using Nat.strongRecOn with
 |ind u ih=>
  rw[Lib.decDigits]
  split
  ·next h=>simp[dval];rw[Nat.mod_eq_of_lt (by omega)];omega
  ·next h=>
   rw[Kr,ih (u/10) (by omega),gB (u%10) (by omega)]
   omega
theorem I1(u:Nat):Lib.decDigits u≠ []:=by
 rw[Lib.decDigits]
 split
 ·simp
 ·simp
theorem qU:∀(n:Nat) (l:List UInt8),l.length=n+1->(∀c∈l,Eu c=true)->(n=0\/l.head?≠some 48)->Lib.decDigits (dval l)=l
 |0,l,hl,h,_=>by
  match l,hl with
  |[c],_=>
   have h2:=h c (by simp)
   simp only[Eu,decide_eq_true_eq]at h2
   have e:dval [c]=c.toNat-48:=by simp[dval]
   rw[e,Lib.decDigits_one (by omega)]
   congr 1
   rw[show 48+(c.toNat-48)=c.toNat by omega]
   exact UInt8.ofNat_toNat
 |n+1,l,hl,h,h0=>by
  have hne:l≠ []:=by intro e;rw[e]at hl;simp at hl
  have hs:=List.dropLast_concat_getLast hne
  have hh:l.head?≠some 48:=by
   rcases h0 with h0|h0
   ·omega
   ·exact h0
  have hd:l.dropLast.head? =l.head?:=by
   match l,hl with
   |a::b::t,_=>rfl
  have h1:=qU n l.dropLast (by rw[List.length_dropLast];omega) (fun c hc=>h c (List.dropLast_subset _ hc)) (.inr (by rw[hd];exact hh))
  have h2:=h _ (List.getLast_mem hne)
  simp only[Eu,decide_eq_true_eq]at h2
  have hpos:dval l.dropLast≠0:=by
   intro e
   rw[e]at h1
   have:l.dropLast= [48]:=by rw[<-h1,Lib.decDigits_one (by decide)];rfl
   rw[this]at hd
   exact hh hd.symm
  conv=>rhs;rw[<-hs]
  conv=>lhs;rw[<-hs]
  rw[Kr,Lib.decDigits,dif_neg (by omega)]
  congr 1
  ·rw[show(dval l.dropLast*10+((l.getLast hne).toNat-48))/10=dval l.dropLast by omega,h1]
  ·congr 1
   rw[show 48+(dval l.dropLast*10+((l.getLast hne).toNat-48))%10=(l.getLast hne).toNat by omega]
   exact UInt8.ofNat_toNat
theorem U0(c:UInt8):∀(l:List UInt8) (a n:Nat),Lib.parseUint10 a l=.ok n->Lib.parseUint10 a (l++ [c])=Lib.parseUint10 n [c]
 |[],a,n,h=>by simp only[Lib.parseUint10]at h;injection h with h;rw[h];rfl
 |x::l,a,n,h=>by
  simp only[Lib.parseUint10,List.cons_append]at h ⊢
  split at h
  ·next hx=>
   rw[if_pos hx]
   split at h
   ·cases h
   ·next h1=>
    rw[if_neg h1]
    split at h
    ·cases h
    ·next h2=>
     rw[if_neg h2]
     exact U0 c l _ n h
  ·cases h
theorem Xw:∀(n:Nat) (l:List UInt8),l.length=n->n<=13->(∀c∈l,Eu c=true)->Lib.parseUint10 0 l=.ok (dval l)
 |0,l,hl,_,_=>by obtain rfl:=List.eq_nil_of_length_eq_zero hl;rfl
 |n+1,l,hl,hn,h=>by
  have hne:l≠ []:=by intro e;rw[e]at hl;simp at hl
  have hs:=List.dropLast_concat_getLast hne
  have hD:∀c∈l.dropLast,Eu c=true:=fun c hc=>h c (List.dropLast_subset _ hc)
  have h1:=Xw n l.dropLast (by rw[List.length_dropLast];omega) (by omega) hD
  have h2:=h _ (List.getLast_mem hne)
  simp only[Eu,decide_eq_true_eq]at h2
  have hlt:=P1 n l.dropLast (by rw[List.length_dropLast];omega) hD
  have hp:10 ^ n<=10 ^ 12:=Nat.pow_le_pow_right (by decide) (by omega)
  have hp2:(10:Nat) ^ 12=1000000000000:=by decide
  rw[<-hs,U0 _ _ _ _ h1,Kr]
  simp only[Lib.parseUint10]
  rw[if_pos h2,if_neg (by omega),if_neg (by omega)]
def K9(l:List UInt8):Bool:=decide (1<=l.length)&&decide (l.length<=13)&& !(decide (1<l.length)&&l.head? ==some 48)&&l.all Eu
theorem rL{l:List UInt8}(hl:l.length<=13)(h1:1<=l.length)(h:∀c∈l,Eu c=true):Lib.atoiAll l=.ok (dval l:Int):=by
 match l,h1 with
 |c::r,_=>
  have h2:=h c (by simp)
  simp only[Eu,decide_eq_true_eq]at h2
  rw[Lib.atoiAll_plain c r (by omega) (by omega)]
  unfold Lib.parseMag
  rw[if_neg (by simp),Xw _ (c::r) rfl hl h]
  have hlt:=P1 _ (c::r) rfl h
  have hp:10 ^ (c::r).length<=10 ^ 13:=Nat.pow_le_pow_right (by decide) hl
  have hp2:(10:Nat) ^ 13=10000000000000:=by decide
  simp only[Lib.signless]
  rw[if_neg (by omega)]
theorem Jt(k:Nat):Lib.itoa (k:Int)=Lib.decDigits k:=by
 unfold Lib.itoa
 rw[if_neg (by omega),Int.toNat_natCast]
theorem pV(k:Nat)(h:10<=k):(Lib.decDigits k).head?≠some 48:=by
 induction k using Nat.strongRecOn with
 |ind k ih=>
  rw[Lib.decDigits,dif_neg (by omega)]
  by_cases h2:10<=k/10
  ·have:=ih (k/10) (by omega) h2
   rw[List.head?_append]
   cases hd:(Lib.decDigits (k/10)).head? with
   |none=>exact absurd (List.head?_eq_none_iff.1 hd) (I1 _)
   |some c=>rw[hd]at this;simpa using this
  ·rw[Lib.decDigits_one (by omega)]
   intro e
   have e2:UInt8.ofNat (48+k/10)=48:=by simpa using e
   have:=congrArg UInt8.toNat e2
   rw[gB _ (by omega)]at this
   have h48:(48:UInt8).toNat=48:=rfl
   omega
theorem xO(k:Nat)(h:1<(Lib.decDigits k).length):10<=k:=by
 rw[Lib.decDigits]at h
 split at h
 ·simp at h
 ·omega
theorem U3(s:ByteArray):Dz s=if K9 s.data.toList=true then some (dval s.data.toList) else none:=by
 have hsz:s.data.toList.length=s.size:=by rw[Array.length_toList];rfl
 split
 ·next h=>
  unfold K9 at h
  simp only[Bool.and_eq_true,decide_eq_true_eq,List.all_eq_true,Bool.not_eq_true',Bool.and_eq_false_imp,beq_eq_false_iff_ne]at h
  obtain⟨⟨⟨h1,h2⟩,h3⟩,h4⟩:=h
  unfold Dz
  rw[rL h2 h1 h4]
  have e:Lib.itoa (dval s.data.toList:Int)=s.data.toList:=by
   rw[Jt]
   refine qU (s.data.toList.length-1) _ (by omega) h4 ?_
   by_cases hl:1<s.data.toList.length
   ·exact .inr (h3 hl)
   ·exact .inl (by omega)
  show(if s.size<=13/\0<=(dval s.data.toList:Int)/\Lib.itoa (dval s.data.toList:Int)=s.data.toList then some (dval s.data.toList:Int).toNat else none)=_
  rw[if_pos ⟨by omega,by omega,e⟩,Int.toNat_natCast]
 ·next h=>
  cases hn:Dz s with
  |none=>rfl
  |some k=>
   exfalso
   apply h
   unfold Dz at hn
   split at hn
   ·next v hv=>
    split at hn
    ·next hc=>
     obtain⟨h1,h2,h3⟩:=hc
     obtain⟨m,rfl⟩:∃m:Nat,v=m:=⟨v.toNat,(Int.toNat_of_nonneg h2).symm⟩
     rw[Jt]at h3
     unfold K9
     simp only[Bool.and_eq_true,decide_eq_true_eq,List.all_eq_true,Bool.not_eq_true',Bool.and_eq_false_imp,beq_eq_false_iff_ne]
     refine⟨⟨⟨?_,by omega⟩,fun hl=>?_⟩,?_⟩
     ·rw[<-h3]
      exact List.length_pos_iff.2 (I1 m)
     ·rw[<-h3]at hl ⊢
      exact pV m (xO m hl)
     ·rw[<-h3];exact Gk m
    ·cases hn
   ·cases hn
theorem V3{u k:Nat}(h:u<10 ^ k)(hk:1<=k):(Lib.decDigits u).length<=k:=by
 induction k generalizing u with
 |zero=>omega
 |succ k ih=>
  rw[Lib.decDigits]
  split
  ·simp
  ·next hu=>
   have hk1:1<=k:=by
    cases k with
    |zero=>simp at h;omega
    |succ k=>omega
   have:=ih (u:=u/10) (by rw[Nat.pow_succ]at h;omega) hk1
   rw[List.length_append,List.length_singleton]
   omega
theorem U1 (k : Nat) (h : k < 10000000000000) : Dz ⟨(Lib.itoa (k : Int)).toArray⟩ = some k := by
  rw [U3, Jt]
  have hl := V3 (u := k) (k := 13) (by have : (10 : Nat) ^ 13 = 10000000000000 := (by decide);omega) (by decide)
  have h1 := List.length_pos_iff.2 (I1 k)
  have hd := Gk k
  have hok : K9 (Lib.decDigits k) = true := by
    unfold K9
    simp only [Bool.and_eq_true, decide_eq_true_eq, List.all_eq_true, Bool.not_eq_true', Bool.and_eq_false_imp, beq_eq_false_iff_ne]
    exact ⟨⟨⟨h1, hl⟩, fun hh => pV k (xO k hh)⟩, hd⟩
  show (if K9 (Lib.decDigits k).toArray.toList = true then some (dval (Lib.decDigits k).toArray.toList) else none) = _
  rw [List.toList_toArray, if_pos hok, V2]
def N5(s:ByteArray):Int:=match Dz s with|some k=>(k:Int)|none=>-1
theorem Rm{s:ByteArray}(h:K9 s.data.toList=false):N5 s= -1:=by unfold N5;rw[U3,h];rfl
theorem Xz{s:ByteArray}(h:K9 s.data.toList=true):N5 s=(dval s.data.toList:Int):=by unfold N5;rw[U3,h];rfl
theorem Gh(s:ByteArray):s.data.toList.length=s.size:=by rw[Array.length_toList];rfl
theorem xS(s:ByteArray)(h:0<s.size):s.data.toList.head? =some s[0]:=by
 rw[List.head?_eq_getElem?,List.getElem?_eq_getElem (by rw[Gh];exact h)]
 rfl
theorem Pi(s:ByteArray)(i:Nat)(h:i<s.size):s.data.toList.take (i+1)=s.data.toList.take i++ [s[i]]:=by
 rw[List.take_succ_eq_append_getElem (by rw[Gh];exact h)]
 rfl
theorem Wr (s : ByteArray) (w : World) (hs : s.size ≤ 100000) : Calls Tryz.prog 80 #[.string s] w fun e w' => e = .returned (.int .i64 (N5 s)) ∧ w = w' := by
  have HSZ := Aia (Gh s)
  by_cases h1 : (s.size : Int) < 1
  · have HV := Aia (Rm (s := s) (by unfold K9; rw [Gh, decide_eq_false (by omega)]; rfl))
    go_enter func80, ntmps80
    go_wp2_with fail
    go_ret
    exact ⟨A6 HV.out.symm, rfl⟩
  by_cases h2 : (13 : Int) < (s.size : Int)
  · have HV := Aia (Rm (s := s) (by unfold K9; rw [Gh, decide_eq_false (p := s.size ≤ 13) (by omega), Bool.and_false]; rfl))
    go_enter func80, ntmps80
    go_wp2_with fail
    go_ret
    exact ⟨A6 HV.out.symm, rfl⟩
  have h0 : 0 < s.size := by omega
  have HH0 := Aia h0
  by_cases h3 : (1 : Int) < (s.size : Int) ∧ s[0] = 48
  · obtain ⟨h3, h4⟩ := h3
    have HV := Aia (Rm (s := s) (by unfold K9; rw [Gh, decide_eq_true (p := 1 < s.size) (by omega), xS s h0]; rw [show (some s[0] == some (48 : UInt8)) = true from by rw [h4]; rfl]; simp))
    have h5 : ((s[0].toNat : Int) == 48) = true := by rw [h4]; rfl
    clear h4
    go_enter func80, ntmps80
    go_wp2_with fail
    go_ret
    exact ⟨A6 HV.out.symm, rfl⟩
  have HG : Hid (s.data.toList.all Eu = true → K9 s.data.toList = true) := Aia (fun ha => by
    unfold K9
    rw [ha, Gh, decide_eq_true (p := 1 ≤ s.size) (by omega), decide_eq_true (p := s.size ≤ 13) (by omega)]
    by_cases h4 : 1 < s.size
    · have h5 : ¬ s[0] = 48 := fun e => h3 ⟨by omega, e⟩
      have h6 : (s.data.toList.head? == some (48 : UInt8)) = false := by rw [xS s h0, beq_eq_false_iff_ne]; intro e; exact h5 (Option.some.inj e)
      rw [h6, Bool.and_false]; rfl
    · rw [decide_eq_false h4]; rfl)
  have HL : Hid (∀ i (hi : i < s.size), Eu s[i] = false → N5 s = -1) := Aia (fun i hi hd => Rm (by
    unfold K9
    have : s.data.toList.all Eu = false := by
      rw [List.all_eq_false]
      exact ⟨s[i], by rw [show s[i] = s.data.toList[i]'(by rw [Gh]; exact hi) from rfl]; exact List.getElem_mem _, by rw [hd]; decide⟩
    rw [this, Bool.and_false]))
  by_cases hs1 : (1 : Int) < (s.size : Int)
  · have h4 : ((s[0].toNat : Int) == 48) = false := by
      rw [beq_eq_false_iff_ne]
      intro e
      exact h3 ⟨hs1, UInt8.toNat_inj.1 (by have : s[0].toNat = 48 := (by omega);exact this)⟩
    clear h3
    go_enter func80, ntmps80
    go_wp2_with fail
    go_loop [3, 4] (fun s3 s4 => ∃ i : Nat, i ≤ s.size ∧ s3 = .int .i64 (dval (s.data.toList.take i) : Nat) ∧ s4 = .int .i64 i ∧ Hid (∀ c ∈ s.data.toList.take i, Eu c = true)) (fun _ s4 => s.size - (intOf s4).toNat)
    case atStart => exact ⟨0, Nat.zero_le _, rfl, rfl, fun c hc => by cases hc⟩
    case round =>
      obtain ⟨i, hi, rfl, rfl, hall⟩ := hrel
      by_cases hlt : i < s.size
      · have hv : dval (s.data.toList.take i) < 10000000000000 := by
          have := P1 i (s.data.toList.take i) (by rw [List.length_take, HSZ.out]; omega) hall.out
          exact Nat.lt_of_lt_of_le this (Nat.pow_le_pow_right (by decide) (show i ≤ 13 by omega))
        by_cases hd : Eu s[i] = true
        · have hb : 48 ≤ s[i].toNat ∧ s[i].toNat ≤ 57 := of_decide_eq_true hd
          have nx : Hid (dval (s.data.toList.take (i + 1)) = 10 * dval (s.data.toList.take i) + (s[i].toNat - 48)) := Aia (by rw [Pi s i hlt, Kr, Nat.mul_comm])
          have na : Hid (∀ c ∈ s.data.toList.take (i + 1), Eu c = true) := Aia (fun c hc => by
            rw [Pi s i hlt] at hc
            rcases List.mem_append.1 hc with hc | hc
            · exact hall.out c hc
            · rw [List.mem_singleton.1 hc]; exact hd)
          obtain ⟨D, hD⟩ : ∃ D, D = dval (s.data.toList.take i) := ⟨_, rfl⟩
          rw [← hD] at hv nx ⊢
          have hx1 : 48 ≤ (s[i].toNat : Int) := by omega
          have hx2 : (s[i].toNat : Int) ≤ 57 := by omega
          have w1 : wrap64 (10 * (D : Int)) = 10 * (D : Int) := IntWalk.wrap64_in _ (by omega)
          have w2 : wrap64 (10 * (D : Int) + ((s[i].toNat : Int) - 48)) = 10 * (D : Int) + ((s[i].toNat : Int) - 48) := IntWalk.wrap64_in _ (by omega)
          clear hb hd hD hv hall
          go_wp2_with fail
          go_round
          case rel => exact ⟨i + 1, by omega, by rw [nx.out]; congr 1; omega, by go_num, na⟩
          case measure => simp [intOf]; omega
        · have hd : Eu s[i] = false := by simpa using hd
          have HV := Aia (HL.out i hlt hd)
          have hb : ¬ (48 ≤ s[i].toNat ∧ s[i].toNat ≤ 57) := of_decide_eq_false hd
          by_cases hlo : (s[i].toNat : Int) < 48
          · clear hd hb
            go_wp2_with fail
            go_ret
            exact ⟨A6 HV.out.symm, rfl⟩
          · have hhi : (57 : Int) < (s[i].toNat : Int) := by omega
            clear hd hb
            go_wp2_with fail
            go_ret
            exact ⟨A6 HV.out.symm, rfl⟩
      · have HV : Hid (N5 s = (dval (s.data.toList.take i) : Int)) := Aia (by
          rw [List.take_of_length_le (by rw [HSZ.out]; omega)] at hall ⊢
          exact Xz (HG.out (List.all_eq_true.2 hall.out)))
        go_wp2_with fail
        go_ret
        exact ⟨A6 HV.out.symm, rfl⟩
  · clear h3
    go_enter func80, ntmps80
    go_wp2_with fail
    go_loop [3, 4] (fun s3 s4 => ∃ i : Nat, i ≤ s.size ∧ s3 = .int .i64 (dval (s.data.toList.take i) : Nat) ∧ s4 = .int .i64 i ∧ Hid (∀ c ∈ s.data.toList.take i, Eu c = true)) (fun _ s4 => s.size - (intOf s4).toNat)
    case atStart => exact ⟨0, Nat.zero_le _, rfl, rfl, fun c hc => by cases hc⟩
    case round =>
      obtain ⟨i, hi, rfl, rfl, hall⟩ := hrel
      by_cases hlt : i < s.size
      · have hv : dval (s.data.toList.take i) < 10000000000000 := by
          have := P1 i (s.data.toList.take i) (by rw [List.length_take, HSZ.out]; omega) hall.out
          exact Nat.lt_of_lt_of_le this (Nat.pow_le_pow_right (by decide) (show i ≤ 13 by omega))
        by_cases hd : Eu s[i] = true
        · have hb : 48 ≤ s[i].toNat ∧ s[i].toNat ≤ 57 := of_decide_eq_true hd
          have nx : Hid (dval (s.data.toList.take (i + 1)) = 10 * dval (s.data.toList.take i) + (s[i].toNat - 48)) := Aia (by rw [Pi s i hlt, Kr, Nat.mul_comm])
          have na : Hid (∀ c ∈ s.data.toList.take (i + 1), Eu c = true) := Aia (fun c hc => by
            rw [Pi s i hlt] at hc
            rcases List.mem_append.1 hc with hc | hc
            · exact hall.out c hc
            · rw [List.mem_singleton.1 hc]; exact hd)
          obtain ⟨D, hD⟩ : ∃ D, D = dval (s.data.toList.take i) := ⟨_, rfl⟩
          rw [← hD] at hv nx ⊢
          have hx1 : 48 ≤ (s[i].toNat : Int) := by omega
          have hx2 : (s[i].toNat : Int) ≤ 57 := by omega
          have w1 : wrap64 (10 * (D : Int)) = 10 * (D : Int) := IntWalk.wrap64_in _ (by omega)
          have w2 : wrap64 (10 * (D : Int) + ((s[i].toNat : Int) - 48)) = 10 * (D : Int) + ((s[i].toNat : Int) - 48) := IntWalk.wrap64_in _ (by omega)
          clear hb hd hD hv hall
          go_wp2_with fail
          go_round
          case rel => exact ⟨i + 1, by omega, by rw [nx.out]; congr 1; omega, by go_num, na⟩
          case measure => simp [intOf]; omega
        · have hd : Eu s[i] = false := by simpa using hd
          have HV := Aia (HL.out i hlt hd)
          have hb : ¬ (48 ≤ s[i].toNat ∧ s[i].toNat ≤ 57) := of_decide_eq_false hd
          by_cases hlo : (s[i].toNat : Int) < 48
          · clear hd hb
            go_wp2_with fail
            go_ret
            exact ⟨A6 HV.out.symm, rfl⟩
          · have hhi : (57 : Int) < (s[i].toNat : Int) := by omega
            clear hd hb
            go_wp2_with fail
            go_ret
            exact ⟨A6 HV.out.symm, rfl⟩
      · have HV : Hid (N5 s = (dval (s.data.toList.take i) : Int)) := Aia (by
          rw [List.take_of_length_le (by rw [HSZ.out]; omega)] at hall ⊢
          exact Xz (HG.out (List.all_eq_true.2 hall.out)))
        go_wp2_with fail
        go_ret
        exact ⟨A6 HV.out.symm, rfl⟩
end Go.Proofs.YtikehilbmldadaaGreatDoor
