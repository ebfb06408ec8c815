import Derived.Test.YtikehilbmldadaaGreatDoorV23
import Derived.Lib.SlicesS
import Derived.Lib.Bytealg
import Derived.Test.YtikehilbmldadaaGreatDoorV37
import Derived.Test.YtikehilbmldadaaGreatDoorV39
set_option maxHeartbeats 8000000
set_option maxRecDepth 1000000
set_option linter.unusedVariables false
open Go.Proofs.Tryz Go.Proofs.YtikehilbmldadaaGreatDoor.Tryz
namespace Go.Proofs.YtikehilbmldadaaGreatDoor
section
open Go.RowKit
theorem Pp(c:UInt8)(l:List UInt8):P8 (c::l)=(if c=10 then [59,32] else [c])++P8 l:=by simp[P8]
theorem Si:∀d:List UInt8,d.count 10=0->P8 d=d
 |[],_=>rfl
 |c::l,h=>by
  have hc:c≠10:=fun e=>by subst e;simp at h
  rw[List.count_cons_of_ne (by simpa using hc)]at h
  rw[Pp,if_neg hc,Si l h];rfl
theorem kU:∀d:List UInt8,0<d.count 10->∃j:Nat,Lib.indexByte d 10=(j:Int)/\j<d.length/\P8 d=d.take j++ [59,32]++P8 (d.drop (j+1))/\d.count 10=(d.drop (j+1)).count 10+1
 |[],h=>by simp at h
 |c::l,h=>by
  by_cases hc:c=10
  ·subst hc
   exact⟨0,by simp[Lib.indexByte],by simp,by rw[Pp];simp,by simp⟩
  ·rw[List.count_cons_of_ne (by simpa using hc)]at h
   obtain⟨j,h1,h2,h3,h4⟩:=kU l h
   refine⟨j+1,?_,by simp;omega,?_,?_⟩
   ·unfold Lib.indexByte
    have hb:(c==(10:UInt8))=false:=by simpa using hc
    rw[hb,h1]
    have hj:((j:Int)== -1)=false:=beq_eq_false_iff_ne.2 (by omega)
    simp[hj]
   ·rw[Pp,if_neg hc,h3];simp
   ·rw[List.count_cons_of_ne (by simpa using hc),h4];simp
structure Pd (w:World) (s:ByteArray) (start g:Nat) (acc:List UInt8) (wx:World):Prop where
 bl:Lib.IsBuilder 121 5 w.heap.size w.heap.size (Lib.byteCells acc) wx
 bel:Below w.heap.size w wx
 out:acc++P8 (s.data.toList.drop start)=P8 s.data.toList
 cnt:(s.data.toList.drop start).count 10=g
 st:start<=s.size
 len:acc.length<=2*start
theorem Pd.one{w wx:World}{s:ByteArray}{start g:Nat}{acc:List UInt8}(h:Pd w s start (g+1) acc wx):∃j:Nat,Lib.indexByte (s.data.toList.drop start) 10=(j:Int)/\start+j<s.size/\
  (∀w',Lib.BuilderAt 121 5 w.heap.size w.heap.size (.pointer (some ⟨w.heap.size,0,none⟩)) (Lib.byteCells acc++Lib.strCells (s.extract start (start+j))++Lib.strCells ⟨#[59,32]⟩) w'->Below w.heap.size w w'->∃acc',Pd w s (start+j+1) g acc' w'):=by
 obtain⟨j,h1,h2,h3,h4⟩:=kU (s.data.toList.drop start) (by rw[h.cnt];omega)
 have hsz:s.data.toList.length=s.size:=by rw[Array.length_toList];rfl
 rw[List.length_drop,hsz]at h2
 have hst:=h.st
 refine⟨j,h1,by omega,fun w' hb hw=>⟨acc++(s.data.toList.drop start).take j++ [59,32],.inr ?_,hw,?_,?_,by omega,?_⟩⟩
 ·have e:Lib.byteCells (acc++(s.data.toList.drop start).take j++ [59,32])=Lib.byteCells acc++Lib.strCells (s.extract start (start+j))++Lib.strCells ⟨#[59,32]⟩:=by
   rw[Lib.strCells_eq,Lib.strCells_eq,Lib.extract_data,Nat.add_sub_cancel_left,<-Lib.byteCells_append,<-Lib.byteCells_append]
  rw[e];exact hb
 ·rw[<-h.out,h3,List.drop_drop]
  simp only[List.append_assoc,Nat.add_assoc]
 ·have:=h.cnt
  rw[h4,List.drop_drop]at this
  rw[show start+j+1=start+(j+1)by omega]
  omega
 ·have:=h.len
  simp only[List.length_append,List.length_take,List.length_drop,List.length_cons,List.length_nil]
  omega
theorem Ah1:(⟨#[59,32]⟩:ByteArray).size=2:=rfl
theorem Wd(B b:Nat)(bs:List Value)(s:ByteArray)(w:World)(h:Lib.IsBuilder 121 5 B b bs w)(hlen:bs.length+s.size<=140737488355328)(hBw:B<=w.heap.size):
  Calls Tryz.prog 99 #[.pointer (some ⟨b,0,none⟩),.string s] w fun e w'=>e=.returned (.tuple #[.int .i64 s.size,.nilIface])/\(Lib.BuilderAt 121 5 B b (.pointer (some ⟨b,0,none⟩)) (bs++Lib.strCells s) w'/\Below B w w'):=
 Any.Builder_WriteString { lays154 with} Builder_Extra_154 B b bs s w h hlen hBw
theorem Ys(n:Nat)(h:n<=1000000):wrap64 (n:Int)=(n:Int):=by unfold wrap64;omega
section
variable {w wx:World} {s:ByteArray} {start g:Nat} {acc:List UInt8}
theorem Pd.small(h:Pd w s start g acc wx)(hs:s.size<=100000)(b:Nat):(Lib.byteCells acc).length+(s.extract start b).size<=300000:=by
 have h1:=h.len
 have h2:=h.st
 have h3:(s.extract start b).size<=100000:=by rw[ByteArray.size_extract];omega
 rw[Lib.byteCells_length]
 omega
theorem Pd.wr1(h:Pd w s start g acc wx)(hs:s.size<=100000)(b:Nat):
  Calls Tryz.prog 99 #[.pointer (some ⟨w.heap.size,0,none⟩),.string (s.extract start b)] wx fun e w'=>e=.returned (.tuple #[.int .i64 (s.extract start b).size,.nilIface])/\(Lib.BuilderAt 121 5 w.heap.size w.heap.size (.pointer (some ⟨w.heap.size,0,none⟩)) (Lib.byteCells acc++Lib.strCells (s.extract start b)) w'/\Below w.heap.size wx w'):=
 Wd _ _ _ _ _ h.bl (Nat.le_trans (h.small hs b) (by decide)) h.bel.size
theorem Pd.wr2(h:Pd w s start g acc wx)(hs:s.size<=100000)(b:Nat)(w3:World)(hb:Lib.BuilderAt 121 5 w.heap.size w.heap.size (.pointer (some ⟨w.heap.size,0,none⟩)) (Lib.byteCells acc++Lib.strCells (s.extract start b)) w3)(hl:w.heap.size<=w3.heap.size):
  Calls Tryz.prog 99 #[.pointer (some ⟨w.heap.size,0,none⟩),.string ⟨#[59,32]⟩] w3 fun e w'=>e=.returned (.tuple #[.int .i64 2,.nilIface])/\(Lib.BuilderAt 121 5 w.heap.size w.heap.size (.pointer (some ⟨w.heap.size,0,none⟩)) (Lib.byteCells acc++Lib.strCells (s.extract start b)++Lib.strCells ⟨#[59,32]⟩) w'/\Below w.heap.size w3 w'):=by
 have h2:=h.small hs b
 have h3:(Lib.byteCells acc++Lib.strCells (s.extract start b)).length+(⟨#[59,32]⟩:ByteArray).size<=300002:=by
  rw[List.length_append,Lib.strCells_length,Ah1]
  omega
 have:=Wd w.heap.size w.heap.size _ ⟨#[59,32]⟩ w3 (.inr hb) (Nat.le_trans h3 (by decide)) hl
 rw[Ah1]at this
 exact this
end
theorem Wj(s:ByteArray)(w:World)(hs:s.size<=100000):
  Calls Tryz.prog 192 #[.string s,.string ⟨#[10]⟩,.string ⟨#[59,32]⟩,.int .i64 (-1)] w fun e w'=>e=.returned (.string (Fc (P8 s.data.toList)))/\Below w.heap.size w w':=by
 have HC:=Aia (Tryz.strings_Count_one s 10 w)
 obtain⟨K,hK⟩:∃K:Nat,K=Lib.countByte s.data.toList 10:=⟨_,rfl⟩
 rw[<-hK]at HC
 have hsz:s.data.toList.length=s.size:=by rw[Array.length_toList];rfl
 have hKs:K<=s.size:=by
  rw[hK,<-hsz]
  exact List.count_le_length
 have hS0:=Aia (show s.data.toList.count 10=K from hK.symm)
 by_cases h0:K=0
 ·subst h0
  have HR:=Aia (show Fc (P8 s.data.toList)=s from by rw[Si _ hS0.out];exact Afp s)
  clear hK hKs hS0 hsz
  go_enter func192,ntmps192
  go_wp2_with fail
  refine HC.out.mono ?_
  rintro e w1 ⟨rfl,rfl⟩
  go_wp2_with fail
  go_ret
  refine⟨?_,Below.refl _ _⟩
  rw[HR.out];rfl
 ·have hcz:((K:Int)==0)=false:=beq_eq_false_iff_ne.2 (by omega)
  have hS:=Aia hs
  have hKS:=Aia hKs
  have HSZ:=Aia hsz
  have HG:=Aia (fun W hb hB=>Tryz.Builder_Grow_fresh w.heap.size w.heap.size (s.size+K) W (Nat.le_refl _) hb hB (by omega))
  have hga:wrap64 ((s.size:Int)+wrap64 (K:Int))=((s.size+K:Nat):Int):=by
   unfold wrap64
   omega
  clear hK h0 hs hKs hsz
  go_enter func192,ntmps192
  go_wp2_with fail
  refine HC.out.mono ?_
  rintro e w1 ⟨rfl,rfl⟩
  clear HC
  go_wp2_with fail
  rw[hga]
  refine(HG.out _ (heap_alloc_new _ _) (by simp)).mono ?_
  rintro e w2 ⟨rfl,hb0,hb1⟩
  have hst:Pd w1 s 0 K [] w2:=⟨.inr hb0,((Below.refl w1.heap.size w1).alloc (Nat.le_refl _) _).trans hb1,by simp,by rw[List.drop_zero];exact hS0.out,Nat.zero_le _,by simp⟩
  have HST:=Aia hst
  clear hb0 hb1 hst hga HG
  go_wp2_with fail
  go_loopw [11,53] (fun s11 s53 wx=>∃(i start g:Nat) (acc:List UInt8),s53=.int .i64 i/\s11=.int .i64 start/\i+g=K/\Hid (Pd w1 s start g acc wx)) (fun _ s53 _=>K-(intOf s53).toNat)
  case atStart=>exact⟨0,0,K,[],rfl,rfl,by omega,HST⟩
  case round=>
   obtain⟨i,start,g,acc,rfl,rfl,hig,hr⟩:=hrel
   clear HST
   have hBw:w1.heap.size<=wr.heap.size:=hr.out.bel.size
   have hle:=hr.out.st
   have c1:(0:Int)<=(start:Int):=by omega
   have c2:(start:Int)<=(s.size:Int):=by omega
   have hacc:=hr.out.len
   have hsb:=hS.out
   cases g with
   |zero=>
    have hiK:¬((i:Int)<(K:Int)):=by omega
    have HW:=Aia (hr.out.wr1 hsb s.size)
    have HF:Hid (Lib.byteCells acc++Lib.strCells (s.extract start s.size)=Lib.byteCells (P8 s.data.toList)):=Aia (by
     rw[Lib.strCells_eq,Lib.extract_to_end,<-Lib.byteCells_append,<-hr.out.out,Si _ hr.out.cnt])
    have HBl:=Aia hr.out.bel
    clear hr hacc hle hsb
    go_wp2_with fail
    refine HW.out.mono ?_
    rintro e w3 ⟨rfl,h3,hb3⟩
    rw[HF.out]at h3
    have HSt:=Aia (Tryz.Builder_String_any w1.heap.size w1.heap.size _ w3 (.inr h3) (Nat.le_trans hBw hb3.size))
    have HB3:=Aia (HBl.out.trans hb3)
    clear h3 hb3 HW HF
    go_wp2_with fail
    refine HSt.out.mono ?_
    rintro e w4 ⟨rfl,hb4⟩
    have HB4:=Aia (HB3.out.trans hb4)
    clear hb4
    go_wp2_with fail
    go_ret
    exact⟨rfl,HB4.out⟩
   |succ g=>
    have hiK:(i:Int)<(K:Int):=by omega
    obtain⟨j,hj,hjs,hnx⟩:=hr.out.one
    have HIx:=Aia (Tryz.strings_Index_one (s.extract start s.size) 10 wr)
    rw[Lib.extract_to_end,hj]at HIx
    have c3:(start:Int)<=(start:Int)+(j:Int):=by omega
    have c4:(start:Int)+(j:Int)<=(s.size:Int):=by omega
    have hb1:start+j<=1000000:=by omega
    have hb2:start+j+1<=1000000:=by omega
    have hb3:i+1<=1000000:=by have:=hKS.out;omega
    have hc1:(start:Int)+(j:Int)=((start+j:Nat):Int):=by omega
    have hc2:(start:Int)+(j:Int)+1=((start+j+1:Nat):Int):=by omega
    have hc3:(i:Int)+1=((i+1:Nat):Int):=by omega
    have hw1:wrap64 ((start:Int)+(j:Int))=((start+j:Nat):Int):=by rw[hc1];exact Ys _ hb1
    have hw2:wrap64 ((start:Int)+(j:Int)+1)=((start+j+1:Nat):Int):=by rw[hc2];exact Ys _ hb2
    have hw3:wrap64 ((i:Int)+1)=((i+1:Nat):Int):=by rw[hc3];exact Ys _ hb3
    clear hb1 hb2 hb3 hc1 hc2 hc3
    have HW:=Aia (hr.out.wr1 hsb (start+j))
    have HW2:=Aia (fun w3 h3 hl=>hr.out.wr2 hsb (start+j) w3 h3 hl)
    have HNx:=Aia hnx
    have HBl:=Aia hr.out.bel
    clear hr hacc hle hsb hj hnx
    go_wp2_with fail
    refine HIx.out.mono ?_
    rintro e wi ⟨rfl,rfl⟩
    go_wp2_with fail
    rw[hw1]
    refine HW.out.mono ?_
    rintro e w3 ⟨rfl,h3,hb3⟩
    have HW3:=Aia (HW2.out w3 h3 (Nat.le_trans hBw hb3.size))
    have HB3:=Aia (HBl.out.trans hb3)
    clear h3 hb3 HW HW2
    go_wp2_with fail
    refine HW3.out.mono ?_
    rintro e w4 ⟨rfl,h4,hb4⟩
    obtain⟨acc',hx⟩:=HNx.out w4 h4 (HB3.out.trans hb4)
    have HX:=Aia hx
    clear h4 hb4 hx HW3 HNx HB3 HBl
    go_wp2_with fail
    go_roundw
    case rel=>exact⟨i+1,start+j+1,g,acc',by rw[hw3],by rw[hw2],by omega,HX⟩
    case measure=>rw[hw3];simp[intOf];omega
theorem Sf(s:ByteArray)(w:World)(hs:s.size<=100000):
  Calls Tryz.prog 141 #[.string s,.string ⟨#[10]⟩,.string ⟨#[59,32]⟩] w fun e w'=>e=.returned (.string (Fc (P8 s.data.toList)))/\Below w.heap.size w w':=by
 have HC:=Aia (Wj s w hs)
 clear hs
 go_enter func141,ntmps141
 go_wp2_with fail
 refine HC.out.mono ?_
 rintro e w1 ⟨rfl,b1⟩
 go_wp2_with fail
 go_ret
 exact⟨rfl,b1⟩
end
section
open Go.RowKit
theorem yJ(base rb:Nat)(o:Nat->Option Nat)(C:Al)(v:Value)(Z:List Aw)(y:Aw)(w:World)(h:Ei base rb o C 6 v (Z++ [y]) w)(hZ:Z.length<=100000)(hn:y.E.gaps.length<=100000)(name:ByteArray)(nb noff ncap:Nat)(a b c d:Int)(n0:w.cell? ⟨nb,noff,none⟩=some (.int .i64 a))(n1:w.cell? ⟨nb,noff+1,none⟩=some (.int .i64 b))(n2:w.cell? ⟨nb,noff+2,none⟩=some (.int .i64 c))(n3:w.cell? ⟨nb,noff+3,none⟩=some (.int .i64 d))(hnb:nb<w.heap.size)(hon:o nb=none):
  Calls Tryz.prog 114 #[.pointer (some ⟨rb,0,none⟩),.int .i64 6,.string name,.slice (some ⟨nb,noff,none⟩) 4 ncap] w fun e w'=>e=.returned (.tuple #[])/\G5 base rb o (Bf 6 name [a,b,c,d] C) 6 w w':=by
 obtain⟨i0,hi0,hz0,hz1,hz2⟩:=info_parts infoGap
 obtain⟨g,off,cap,rfl,⟨hc1,hc2⟩,hog,hbg,hgw,hgr,hcell⟩:=h.form
 have hrl:=Aa h.blk
 have hlast:=h.last
 obtain⟨hpo,hpt⟩:=hlast 1 (by decide)
 obtain⟨pa,pc,hpv⟩:=hpo.val
 have hpv:y.g=.slice pa y.E.gaps.length pc:=hpv
 have HOW:Hid (∀W,Below w.heap.size w W->As W base 126 4 (.slice pa y.E.gaps.length pc) y.E.gaps.length (y.E.gaps.flatMap Ck)/\base<=W.heap.size):=(show _ from fun W hW=>⟨by rw[<-hpv];exact hpo.later hW,Nat.le_trans h.top hW.size⟩)
 obtain⟨c0,c1,c2,c3,c4,c5,cf⟩:=Ek h.blk
 have q2:=hcell 6 _ rfl
 rw[hpv,<-Nat.add_assoc]at q2
 have hgn:¬g=nb:=fun e=>by rw[e,hon]at hog;cases hog
 have hng:¬nb=g:=fun e=>hgn e.symm
 have hgs:¬g=w.heap.size:=by omega
 have hgs2:¬w.heap.size=g:=by omega
 have hns:¬nb=w.heap.size:=by omega
 have hns2:¬w.heap.size=nb:=by omega
 have HA:Hid (∀(w1 w2:World) (ao:Option Addr) (cp:Nat),Below w.heap.size w w1->As w2 base 126 4 (.slice ao (y.E.gaps.length+1) cp) (y.E.gaps.length+1) (y.E.gaps.flatMap Ck++ [.int .i64 a,.int .i64 b,.int .i64 c,.int .i64 d])->w1.grownBy w2 (Value.slice pa y.E.gaps.length pc).ownBlock->((Value.slice ao (y.E.gaps.length+1) cp).ownBlock=(Value.slice pa y.E.gaps.length pc).ownBlock\/∀b,(Value.slice ao (y.E.gaps.length+1) cp).ownBlock=some b->w1.heap.size<=b)->
   Hid (G5 base rb o (Bf 6 name [a,b,c,d] C) 6 w (w2.setCell ⟨g,off+Z.length*10+6,none⟩ (.slice ao (y.E.gaps.length+1) cp)))/\w2.cell? ⟨g,off+Z.length*10+6,none⟩=some (.slice pa y.E.gaps.length pc)/\w2.frozen? ⟨g,off+Z.length*10+6,none⟩=false/\∀k,w2.cell? ⟨nb,k,none⟩=w.cell? ⟨nb,k,none⟩):=(show _ from by
  intro w1 w2 ao cp b1 ho hg hnn
  have hfar:=fun k=>(h.far b1 (T:=1+5*Z.length+1) (fun b hb=>hpt b (by rw[<-hb,<-hpv];rfl)) hg nb k hnb hon).1
  rw[<-hpv]at hg hnn ⊢
  have hE:=Kp (y':=⟨Bl 6 name [a,b,c,d] y.E,y.p,.slice ao (y.E.gaps.length+1) cp,y.e,y.f,y.l⟩) h.eq 6 (by decide) name [a,b,c,d] rfl
  obtain⟨⟨o',hA⟩,hK,hc,hf⟩:=h.appF (y':=⟨Bl 6 name [a,b,c,d] y.E,y.p,.slice ao (y.E.gaps.length+1) cp,y.e,y.f,y.l⟩) (C':=Bf 6 name [a,b,c,d] C) 1 (by decide) b1 ho hg hnn rfl rfl
   (fun i hi hne=>by
    match i,hi with
    |0,_=>exact⟨rfl,rfl,rfl⟩
    |1,_=>exact absurd rfl hne
    |2,_=>exact⟨rfl,rfl,rfl⟩
    |3,_=>exact⟨rfl,rfl,rfl⟩
    |4,_=>exact⟨rfl,rfl,rfl⟩
    )
   ⟨rfl,by show(y.E.gaps++ [(⟨a,b,c,d⟩:Lb)]).length=_;simp,by show(y.E.gaps++ [(⟨a,b,c,d⟩:Lb)]).flatMap Ck=_;simp[Ck]⟩ (Rx C 6 (by decide) name _ _ 6) hE
  rw[show fO 1=6 from rfl,<-Nat.add_assoc]at hA hK hc hf
  exact⟨⟨⟨o',_,_,hA⟩,hK.mono (fun b _ hb=>.inr hb)⟩,hc,hf,hfar⟩)
 obtain⟨m,hm⟩:∃m,m=Z.length:=⟨_,rfl⟩
 obtain⟨np,hnp⟩:∃np,np=y.E.gaps.length:=⟨_,rfl⟩
 rw[<-hm]at hc1 HA q2 c4 hZ
 rw[<-hnp]at hn HOW HA q2
 clear h hlast hpo hpt hpv hcell hm hnp hog
 go_enter func114,ntmps114
 go_upto_region 2 with fail
 go_quiet (fail)
 generalize hq:World.drewN w _=wq
 have bq:Below w.heap.size w wq:=by rw[<-hq];exact Ag _ (Below.refl _ _)
 have hle:=bq.size
 have ec:∀p,wq.cell? p=w.cell? p:=fun p=>by rw[<-hq];rfl
 have hqs:wq.heap.size=w.heap.size:=by rw[<-hq];rfl
 have ec2:=Aia ec
 rw[<-ec]at n0 n1 n2 n3 q2
 rw[<-hqs]at hgs hgs2 hns hns2 hgw hnb
 clear hq ec hqs c0 c1 c2 c3 c4 c5 cf
 go_upto_region 9 with fail
 have HSb:Hid (∀W,Below wq.heap.size wq W->(fun w'=>w'.cell? ⟨nb,noff,none⟩=some (.int .i64 a)/\w'.cell? ⟨nb,noff+1,none⟩=some (.int .i64 b)/\w'.cell? ⟨nb,noff+2,none⟩=some (.int .i64 c)/\w'.cell? ⟨nb,noff+3,none⟩=some (.int .i64 d)) W):=(show _ from fun W hW=>by
  refine⟨?_,?_,?_,?_⟩
  ·rw[hW.cell (p:=⟨nb,noff,none⟩) hnb];exact n0
  ·rw[hW.cell (p:=⟨nb,noff+1,none⟩) hnb];exact n1
  ·rw[hW.cell (p:=⟨nb,noff+2,none⟩) hnb];exact n2
  ·rw[hW.cell (p:=⟨nb,noff+3,none⟩) hnb];exact n3)
 have HS6:Hid (∀W:World,(∀k,W.cell? ⟨nb,k,none⟩=w.cell? ⟨nb,k,none⟩)->(fun w'=>w'.cell? ⟨nb,noff,none⟩=some (.int .i64 a)/\w'.cell? ⟨nb,noff+1,none⟩=some (.int .i64 b)/\w'.cell? ⟨nb,noff+2,none⟩=some (.int .i64 c)/\w'.cell? ⟨nb,noff+3,none⟩=some (.int .i64 d)) W):=(show _ from fun W hW=>by
  refine⟨?_,?_,?_,?_⟩
  ·rw[hW,<-ec2.out];exact n0
  ·rw[hW,<-ec2.out];exact n1
  ·rw[hW,<-ec2.out];exact n2
  ·rw[hW,<-ec2.out];exact n3)
 clear ec2 n0 n1 n2 n3
 refine wp_region_noPanic ?_
 refine wp_region_held_drew (S:=(fun w'=>w'.cell? ⟨nb,noff,none⟩=some (.int .i64 a)/\w'.cell? ⟨nb,noff+1,none⟩=some (.int .i64 b)/\w'.cell? ⟨nb,noff+2,none⟩=some (.int .i64 c)/\w'.cell? ⟨nb,noff+3,none⟩=some (.int .i64 d))) (by kernel_rfl) (HSb.out _ ((Below.refl _ _).drew)) (fun hS=>?_)
 refine Be (i:=0) (v:=.pointer (some ⟨g,off+m*10,none⟩)) rfl (by kernel_rfl) (by kernel_rfl) (by kernel_rfl) (fun _ _ _ h=>h) (Or.inl ⟨by rfl,fun w hw=>by(obtain⟨e0,e1,e2,e3⟩:=hw;go_simp)⟩) hS ?_
 ((try simp only[Act.put]);(try simp only[List.setIfInBounds_toArray]);(try simp only[List.set_cons_succ]);(try simp only[List.set_cons_zero]))
 refine Be (i:=1) (v:=.pointer (some ⟨g,off+m*10,none⟩)) rfl (by kernel_rfl) (by kernel_rfl) (by kernel_rfl) (fun _ _ _ h=>h) (Or.inl ⟨by rfl,fun w hw=>by(obtain⟨e0,e1,e2,e3⟩:=hw;go_simp)⟩) hS ?_
 ((try simp only[Act.put]);(try simp only[List.setIfInBounds_toArray]);(try simp only[List.set_cons_succ]);(try simp only[List.set_cons_zero]))
 refine Be (i:=2) (v:=.pointer (some ⟨g,off+m*10,none⟩)) rfl (by kernel_rfl) (by kernel_rfl) (by kernel_rfl) (fun _ _ _ h=>h) (Or.inl ⟨by rfl,fun w hw=>by(obtain⟨e0,e1,e2,e3⟩:=hw;go_simp)⟩) hS ?_
 ((try simp only[Act.put]);(try simp only[List.setIfInBounds_toArray]);(try simp only[List.set_cons_succ]);(try simp only[List.set_cons_zero]))
 refine Be (i:=3) (v:=.pointer (some ⟨g,off+m*10+6,none⟩)) rfl (by kernel_rfl) (by kernel_rfl) (by kernel_rfl) (fun _ _ _ h=>h) (Or.inl ⟨by rfl,fun w hw=>by(obtain⟨e0,e1,e2,e3⟩:=hw;go_simp)⟩) hS ?_
 ((try simp only[Act.put]);(try simp only[List.setIfInBounds_toArray]);(try simp only[List.set_cons_succ]);(try simp only[List.set_cons_zero]))
 refine Be (i:=5) (v:=.slice (some ⟨nb,noff,none⟩) 4 ncap) rfl (by kernel_rfl) (by kernel_rfl) (by kernel_rfl) (fun _ _ _ h=>h) (Or.inl ⟨by rfl,fun w hw=>by(obtain⟨e0,e1,e2,e3⟩:=hw;go_simp)⟩) hS ?_
 ((try simp only[Act.put]);(try simp only[List.setIfInBounds_toArray]);(try simp only[List.set_cons_succ]);(try simp only[List.set_cons_zero]))
 refine Be (i:=6) (v:=.pointer (some ⟨nb,noff,none⟩)) rfl (by kernel_rfl) (by kernel_rfl) (by kernel_rfl) (fun _ _ _ h=>h) (Or.inl ⟨by rfl,fun w hw=>by(obtain⟨e0,e1,e2,e3⟩:=hw;go_simp)⟩) hS ?_
 ((try simp only[Act.put]);(try simp only[List.setIfInBounds_toArray]);(try simp only[List.set_cons_succ]);(try simp only[List.set_cons_zero]))
 refine Be (i:=7) (v:=.int .i64 a) rfl (by kernel_rfl) (by kernel_rfl) (by kernel_rfl) (fun _ _ _ h=>h) (Or.inl ⟨by rfl,fun w hw=>by(obtain⟨e0,e1,e2,e3⟩:=hw;go_simp)⟩) hS ?_
 ((try simp only[Act.put]);(try simp only[List.setIfInBounds_toArray]);(try simp only[List.set_cons_succ]);(try simp only[List.set_cons_zero]))
 refine Be (i:=8) (v:=.slice (some ⟨nb,noff,none⟩) 4 ncap) rfl (by kernel_rfl) (by kernel_rfl) (by kernel_rfl) (fun _ _ _ h=>h) (Or.inl ⟨by rfl,fun w hw=>by(obtain⟨e0,e1,e2,e3⟩:=hw;go_simp)⟩) hS ?_
 ((try simp only[Act.put]);(try simp only[List.setIfInBounds_toArray]);(try simp only[List.set_cons_succ]);(try simp only[List.set_cons_zero]))
 refine Be (i:=9) (v:=.pointer (some ⟨nb,noff+1,none⟩)) rfl (by kernel_rfl) (by kernel_rfl) (by kernel_rfl) (fun _ _ _ h=>h) (Or.inl ⟨by rfl,fun w hw=>by(obtain⟨e0,e1,e2,e3⟩:=hw;go_simp)⟩) hS ?_
 ((try simp only[Act.put]);(try simp only[List.setIfInBounds_toArray]);(try simp only[List.set_cons_succ]);(try simp only[List.set_cons_zero]))
 refine Be (i:=10) (v:=.int .i64 b) rfl (by kernel_rfl) (by kernel_rfl) (by kernel_rfl) (fun _ _ _ h=>h) (Or.inl ⟨by rfl,fun w hw=>by(obtain⟨e0,e1,e2,e3⟩:=hw;go_simp)⟩) hS ?_
 ((try simp only[Act.put]);(try simp only[List.setIfInBounds_toArray]);(try simp only[List.set_cons_succ]);(try simp only[List.set_cons_zero]))
 refine Be (i:=11) (v:=.slice (some ⟨nb,noff,none⟩) 4 ncap) rfl (by kernel_rfl) (by kernel_rfl) (by kernel_rfl) (fun _ _ _ h=>h) (Or.inl ⟨by rfl,fun w hw=>by(obtain⟨e0,e1,e2,e3⟩:=hw;go_simp)⟩) hS ?_
 ((try simp only[Act.put]);(try simp only[List.setIfInBounds_toArray]);(try simp only[List.set_cons_succ]);(try simp only[List.set_cons_zero]))
 refine Be (i:=12) (v:=.pointer (some ⟨nb,noff+2,none⟩)) rfl (by kernel_rfl) (by kernel_rfl) (by kernel_rfl) (fun _ _ _ h=>h) (Or.inl ⟨by rfl,fun w hw=>by(obtain⟨e0,e1,e2,e3⟩:=hw;go_simp)⟩) hS ?_
 ((try simp only[Act.put]);(try simp only[List.setIfInBounds_toArray]);(try simp only[List.set_cons_succ]);(try simp only[List.set_cons_zero]))
 refine Be (i:=13) (v:=.int .i64 c) rfl (by kernel_rfl) (by kernel_rfl) (by kernel_rfl) (fun _ _ _ h=>h) (Or.inl ⟨by rfl,fun w hw=>by(obtain⟨e0,e1,e2,e3⟩:=hw;go_simp)⟩) hS ?_
 ((try simp only[Act.put]);(try simp only[List.setIfInBounds_toArray]);(try simp only[List.set_cons_succ]);(try simp only[List.set_cons_zero]))
 refine Be (i:=14) (v:=.slice (some ⟨nb,noff,none⟩) 4 ncap) rfl (by kernel_rfl) (by kernel_rfl) (by kernel_rfl) (fun _ _ _ h=>h) (Or.inl ⟨by rfl,fun w hw=>by(obtain⟨e0,e1,e2,e3⟩:=hw;go_simp)⟩) hS ?_
 ((try simp only[Act.put]);(try simp only[List.setIfInBounds_toArray]);(try simp only[List.set_cons_succ]);(try simp only[List.set_cons_zero]))
 refine Be (i:=15) (v:=.pointer (some ⟨nb,noff+3,none⟩)) rfl (by kernel_rfl) (by kernel_rfl) (by kernel_rfl) (fun _ _ _ h=>h) (Or.inl ⟨by rfl,fun w hw=>by(obtain⟨e0,e1,e2,e3⟩:=hw;go_simp)⟩) hS ?_
 ((try simp only[Act.put]);(try simp only[List.setIfInBounds_toArray]);(try simp only[List.set_cons_succ]);(try simp only[List.set_cons_zero]))
 refine Be (i:=16) (v:=.int .i64 d) rfl (by kernel_rfl) (by kernel_rfl) (by kernel_rfl) (fun _ _ _ h=>h) (Or.inl ⟨by rfl,fun w hw=>by(obtain⟨e0,e1,e2,e3⟩:=hw;go_simp)⟩) hS ?_
 ((try simp only[Act.put]);(try simp only[List.setIfInBounds_toArray]);(try simp only[List.set_cons_succ]);(try simp only[List.set_cons_zero]))
 refine Be (i:=17) (v:=.agg #[.int .i64 a,.int .i64 b,.int .i64 c,.int .i64 d]) rfl (by kernel_rfl) (by kernel_rfl) (by kernel_rfl) (fun _ _ _ h=>h) (Or.inl ⟨by rfl,fun w hw=>by(obtain⟨e0,e1,e2,e3⟩:=hw;go_simp)⟩) hS ?_
 ((try simp only[Act.put]);(try simp only[List.setIfInBounds_toArray]);(try simp only[List.set_cons_succ]);(try simp only[List.set_cons_zero]))
 refine wpAnyH_ready (rs:=[4,18]) (by kernel_rfl) (by simp) ?_
 refine AllReadyH.cons rfl (fun K hK=>?_) (AllReadyH.cons rfl (fun K hK=>?_) AllReadyH.nil)
 ·go_simp
  refine hK.out _ _ (HSb.out _ (by repeat(first|exact Below.refl _ _|refine Below.drew ?_|refine Cs ?_ _))) (fun hS=>?_)
  clear hK K
  ((try simp only[Act.put]);(try simp only[List.setIfInBounds_toArray]);(try simp only[List.set_cons_succ]);(try simp only[List.set_cons_zero]))
  refine wpAnyH_ready (rs:=[18]) (by kernel_rfl) (by simp) ?_
  refine AllReadyH.cons rfl (fun K hK=>?_) AllReadyH.nil
  go_simp
  refine hK.out _ _ (HSb.out _ (by repeat(first|exact Below.refl _ _|refine Below.drew ?_|refine Cs ?_ _))) (fun hS=>?_)
  clear hK K
  ((try simp only[Act.put]);(try simp only[List.setIfInBounds_toArray]);(try simp only[List.set_cons_succ]);(try simp only[List.set_cons_zero]))
  refine wpAnyH_ready (rs:=[19]) (by kernel_rfl) (by simp) ?_
  refine AllReadyH.cons rfl (fun K hK=>?_) AllReadyH.nil
  refine Bq rfl (.tmp 64) (.tmp 78) 46 rfl base 126 i0 _ 4 32 underlying46 hi0 hz0 hz1 hz2 rfl (by decide) (.slice pa np pc) np (y.E.gaps.flatMap Ck) rfl ?_ ⟨wq.heap.size,0,none⟩ 1 1 [.int .i64 a,.int .i64 b,.int .i64 c,.int .i64 d] rfl rfl ?_ (by intro u hu;simp at hu;rcases hu with rfl|rfl|rfl|rfl<;>rfl) (by unfold maxLen;omega) (by omega) ?_ ?_
  ·exact(HOW.out _ (by repeat(first|exact bq|refine Below.drew ?_|refine Below.alloc ?_ hle _))).1
  ·exact Av _ [.int .i64 a,.int .i64 b,.int .i64 c,.int .i64 d] _
  ·exact(HOW.out _ (by repeat(first|exact bq|refine Below.drew ?_|refine Below.alloc ?_ hle _))).2
  intro a1 k1 w6 ho6 hg6 hn6
  obtain⟨F1,d4,df,dn⟩:=HA.out _ w6 _ _ (by repeat(first|exact bq|refine Below.drew ?_|refine Below.alloc ?_ hle _)) ho6 hg6 hn6
  have hS6:=HS6.out w6 dn
  refine hK.out _ _ hS6 (fun hS=>?_)
  clear hK K ho6 hg6 hn6
  ((try simp only[Act.put]);(try simp only[List.setIfInBounds_toArray]);(try simp only[List.set_cons_succ]);(try simp only[List.set_cons_zero]))
  refine Be (i:=20) (v:=.pointer (some ⟨g,off+m*10,none⟩)) rfl (by kernel_rfl) (by kernel_rfl) (by kernel_rfl) (fun _ _ _ h=>h) (Or.inl ⟨by rfl,fun w hw=>by(obtain⟨e0,e1,e2,e3⟩:=hw;go_simp)⟩) hS ?_
  ((try simp only[Act.put]);(try simp only[List.setIfInBounds_toArray]);(try simp only[List.set_cons_succ]);(try simp only[List.set_cons_zero]))
  refine Be (i:=21) (v:=.pointer (some ⟨g,off+m*10+6,none⟩)) rfl (by kernel_rfl) (by kernel_rfl) (by kernel_rfl) (fun _ _ _ h=>h) (Or.inl ⟨by rfl,fun w hw=>by(obtain⟨e0,e1,e2,e3⟩:=hw;go_simp)⟩) hS ?_
  ((try simp only[Act.put]);(try simp only[List.setIfInBounds_toArray]);(try simp only[List.set_cons_succ]);(try simp only[List.set_cons_zero]))
  refine wpAnyH_ready (rs:=[22]) (by kernel_rfl) (by simp) ?_
  refine AllReadyH.cons rfl (fun K hK=>?_) AllReadyH.nil
  go_simp
  refine hK.out _ _ ?_ (fun hS=>?_)
  ·exact HS6.out _ (fun k=>by rw[World.cell?_setCell_far _ _ _ _ hgn];exact dn k)
  clear hK K
  ((try simp only[Act.put]);(try simp only[List.setIfInBounds_toArray]);(try simp only[List.set_cons_succ]);(try simp only[List.set_cons_zero]))
  refine wpAnyH_done (by kernel_rfl) ?_ _
  refine NoPanic.normal ?_
  go_wp2_with fail
  go_end0
  first
   |exact⟨rfl,F1.out⟩
   |exact⟨rfl,F1.out.drew⟩
 ·go_simp
  refine hK.out _ _ (HSb.out _ (by repeat(first|exact Below.refl _ _|refine Below.drew ?_|refine Cs ?_ _))) (fun hS=>?_)
  clear hK K
  ((try simp only[Act.put]);(try simp only[List.setIfInBounds_toArray]);(try simp only[List.set_cons_succ]);(try simp only[List.set_cons_zero]))
  refine wpAnyH_ready (rs:=[4]) (by kernel_rfl) (by simp) ?_
  refine AllReadyH.cons rfl (fun K hK=>?_) AllReadyH.nil
  go_simp
  refine hK.out _ _ (HSb.out _ (by repeat(first|exact Below.refl _ _|refine Below.drew ?_|refine Cs ?_ _))) (fun hS=>?_)
  clear hK K
  ((try simp only[Act.put]);(try simp only[List.setIfInBounds_toArray]);(try simp only[List.set_cons_succ]);(try simp only[List.set_cons_zero]))
  refine wpAnyH_ready (rs:=[19]) (by kernel_rfl) (by simp) ?_
  refine AllReadyH.cons rfl (fun K hK=>?_) AllReadyH.nil
  refine Bq rfl (.tmp 64) (.tmp 78) 46 rfl base 126 i0 _ 4 32 underlying46 hi0 hz0 hz1 hz2 rfl (by decide) (.slice pa np pc) np (y.E.gaps.flatMap Ck) rfl ?_ ⟨wq.heap.size,0,none⟩ 1 1 [.int .i64 a,.int .i64 b,.int .i64 c,.int .i64 d] rfl rfl ?_ (by intro u hu;simp at hu;rcases hu with rfl|rfl|rfl|rfl<;>rfl) (by unfold maxLen;omega) (by omega) ?_ ?_
  ·exact(HOW.out _ (by repeat(first|exact bq|refine Below.drew ?_|refine Below.alloc ?_ hle _))).1
  ·exact Av _ [.int .i64 a,.int .i64 b,.int .i64 c,.int .i64 d] _
  ·exact(HOW.out _ (by repeat(first|exact bq|refine Below.drew ?_|refine Below.alloc ?_ hle _))).2
  intro a1 k1 w6 ho6 hg6 hn6
  obtain⟨F1,d4,df,dn⟩:=HA.out _ w6 _ _ (by repeat(first|exact bq|refine Below.drew ?_|refine Below.alloc ?_ hle _)) ho6 hg6 hn6
  have hS6:=HS6.out w6 dn
  refine hK.out _ _ hS6 (fun hS=>?_)
  clear hK K ho6 hg6 hn6
  ((try simp only[Act.put]);(try simp only[List.setIfInBounds_toArray]);(try simp only[List.set_cons_succ]);(try simp only[List.set_cons_zero]))
  refine Be (i:=20) (v:=.pointer (some ⟨g,off+m*10,none⟩)) rfl (by kernel_rfl) (by kernel_rfl) (by kernel_rfl) (fun _ _ _ h=>h) (Or.inl ⟨by rfl,fun w hw=>by(obtain⟨e0,e1,e2,e3⟩:=hw;go_simp)⟩) hS ?_
  ((try simp only[Act.put]);(try simp only[List.setIfInBounds_toArray]);(try simp only[List.set_cons_succ]);(try simp only[List.set_cons_zero]))
  refine Be (i:=21) (v:=.pointer (some ⟨g,off+m*10+6,none⟩)) rfl (by kernel_rfl) (by kernel_rfl) (by kernel_rfl) (fun _ _ _ h=>h) (Or.inl ⟨by rfl,fun w hw=>by(obtain⟨e0,e1,e2,e3⟩:=hw;go_simp)⟩) hS ?_
  ((try simp only[Act.put]);(try simp only[List.setIfInBounds_toArray]);(try simp only[List.set_cons_succ]);(try simp only[List.set_cons_zero]))
  refine wpAnyH_ready (rs:=[22]) (by kernel_rfl) (by simp) ?_
  refine AllReadyH.cons rfl (fun K hK=>?_) AllReadyH.nil
  go_simp
  refine hK.out _ _ ?_ (fun hS=>?_)
  ·exact HS6.out _ (fun k=>by rw[World.cell?_setCell_far _ _ _ _ hgn];exact dn k)
  clear hK K
  ((try simp only[Act.put]);(try simp only[List.setIfInBounds_toArray]);(try simp only[List.set_cons_succ]);(try simp only[List.set_cons_zero]))
  refine wpAnyH_done (by kernel_rfl) ?_ _
  refine NoPanic.normal ?_
  go_wp2_with fail
  go_end0
  first
   |exact⟨rfl,F1.out⟩
   |exact⟨rfl,F1.out.drew⟩
end
section
open Go.RowKit
def Lc:W1->ByteArray
 |.str s=>s
 |.num n=>⟨(Lib.itoa n).toArray⟩
theorem Afj(x:W1):(Lc x).data.toList=B3 x:=by cases x<;>simp[Lc,B3]
def Bv(ws:List W1):ByteArray:=⟨(Cb 32 (ws.map B3)).toArray⟩
theorem Oi(ws:List W1):(Bv ws).data.toList=Cb 32 (ws.map B3):=by simp[Bv]
theorem Adr(ws:List W1)(h1:1<=ws.length)(h5:ws.length<=5):Ca ws=(Bv ws).data.toList++ [10]:=by
 rw[Oi]
 match ws,h1,h5 with
 |[a],_,_=>rw[Ahu];simp[Cb]
 |[a,b],_,_=>rw[X6];simp[Cb]
 |[a,b,c],_,_=>rw[xM];simp[Cb]
 |[a,b,c,d],_,_=>rw[Ago];simp[Cb]
 |[a,b,c,d,e],_,_=>rw[Agn];simp[Cb]
theorem Kc:∀{a b:List ByteArray},a.map (·.data.toList)=b.map (·.data.toList)->a=b
 |[],[],_=>rfl
 |[],_::_,h=>by cases h
 |_::_,[],h=>by cases h
 |x::a,y::b,h=>by
  rw[List.map_cons,List.map_cons]at h
  obtain⟨h1,h2⟩:=List.cons.inj h
  rw[Jh h1,Kc h2]
def Afh(b:UInt8)(ws:List W1):Prop:=∀x∈ws,b∉B3 x
theorem Adq{ws:List W1}(h1:ws≠ [])(h:Afh 32 ws):Ic (Bv ws)=ws.map Lc:=by
 refine Kc ?_
 unfold Ic
 rw[El,Oi,P2 32 _ (by simpa using h1) (fun p hp=>by obtain⟨x,hx,rfl⟩:=List.mem_map.1 hp;exact h x hx),List.map_map]
 exact List.map_congr_left (fun x _=>(Afj x).symm)
theorem pQ(c b:UInt8)(hcb:b≠c):∀ps:List (List UInt8),(∀p∈ps,b∉p)->b∉Cb c ps
 |[],_=>by simp[Cb]
 |[p],h=>h p (by simp)
 |p::q::ps,h=>by
  have:=pQ c b hcb (q::ps) (fun x hx=>h x (List.mem_cons_of_mem _ hx))
  rw[Ng c p (by simp),List.mem_append,List.mem_cons]
  rintro(h1|h1|h1)
  ·exact h p (by simp) h1
  ·exact hcb h1
  ·exact this h1
theorem Aak{ws:List W1}(h:Afh 10 ws):10∉(Bv ws).data.toList:=by
 rw[Oi]
 exact pQ 32 10 (by decide) _ (fun p hp=>by obtain⟨x,hx,rfl⟩:=List.mem_map.1 hp;exact h x hx)
theorem Hk{st:RdS}{s w0:ByteArray}{ts:List ByteArray}{k:Nat}{fs:ByteArray}{n:List Int}(hl:Ic s=w0::ts)(hk:Gb w0=some (k,fs))(hlen:ts.length=fs.size)(hr:Bi st.stage k=true)
  (hu:Az (Bo st.c.ents).points fs.data.toList ts fs.size=some (n,false)):A8 st s=(0,⟨Bf k (ts.getD 0 ByteArray.empty) n st.c,(k:Int)⟩):=by
 have hh:Gq s=w0:=by unfold Gq;rw[hl];rfl
 have h1:Dr w0=true:=by unfold Dr;rw[hk];rfl
 have h2:Bp w0=k:=by unfold Bp;rw[hk];rfl
 have h3:Ba w0=fs:=by unfold Ba;rw[hk];rfl
 have hf:Ch st s=true:=by
  unfold Ch
  rw[hh,h1,h2,h3,hr,hl,List.length_cons,Nat.add_sub_cancel,hlen]
  simp
 have hres:Lf st s=some (n,false):=by
  unfold Lf
  rw[hh,h3,hl]
  exact hu
 unfold A8
 rw[if_pos hf,hres,hh,h2,hl]
 rfl
theorem Fs{pts:List ByteArray}{fs:List UInt8}{ts:List ByteArray}{k:Nat}{p q:List Int × Bool}(h:Az pts fs ts k=some p)(h2:A2 pts (fs.getD k 0) (ts.getD k ByteArray.empty) p=some q):Az pts fs ts (k+1)=some q:=by
 show(match Az pts fs ts k with|none=>none|some p=>A2 pts (fs.getD k 0) (ts.getD k ByteArray.empty) p)=some q
 rw[h];exact h2
theorem Yx{pts:List ByteArray}{t:ByteArray}{p:List Int × Bool}{k:Nat}(h:Dz t=some k):A2 pts 110 t p=some (p.1++ [(k:Int)],p.2):=by
 unfold A2
 rw[if_pos rfl,h]
theorem yD{pts:List ByteArray}{t:ByteArray}{p:List Int × Bool}{i:Int}(h:Cn pts t=i)(h0:0<=i)(ht:t.size≠0):A2 pts 112 t p=some (p.1++ [i],p.2):=by
 unfold A2
 rw[if_neg (by decide),if_neg ht,if_pos rfl,h,decide_eq_false (by omega),Bool.or_false]
theorem Agv{pts:List ByteArray}{t:ByteArray}{p:List Int × Bool}(ht:t.size≠0):A2 pts 115 t p=some p:=by
 unfold A2
 rw[if_neg (by decide),if_neg ht,if_neg (by decide)]
structure Nv (E:Ap):Prop where
 good:Fu E
 name:Bk E.name=true
 pts:∀s∈E.points,Bk s=true
 dis:∀(i j:Nat) (hi:i<E.points.length) (hj:j<E.points.length),j<i->E.points[j]≠E.points[i]
 cmm:E.count= -1->E.mn=0/\E.mx=0
 cnt:E.count= -1\/(0<=E.count/\E.count<(E.points.length:Int))
theorem Adl{s:ByteArray}(h:Bk s=true)(b:UInt8)(hb:b.toNat<45):b∉s.data.toList:=by
 intro hm
 obtain⟨i,hi,he⟩:=List.mem_iff_getElem.1 hm
 have hi':i<s.size:=by rw[Array.length_toList]at hi;exact hi
 by_cases hk:okN i s[i]=true
 ·have:s[i]=b:=by rw[<-he];rfl
  rw[this]at hk
  simp only[okN,decide_eq_true_eq]at hk
  omega
 ·rw[Fy i hi' (by simpa using hk)]at h
  cases h
theorem G8{s:ByteArray}(h:Bk s=true):s.size≠0:=by
 intro h0
 rw[Gj (by omega)]at h
 cases h
theorem zZ{P:List ByteArray}(h:Ij P=0):∀j,j<P.length->ptE P j=0:=by
 have hall:∀n,∀j,j<n->j<P.length->ptE P j=0:=by
  intro n
  induction n with
  |zero=>intro j h1;omega
  |succ n ih=>
   intro j h1 h2
   by_cases hj:j<n
   ·exact ih j hj h2
   ·obtain rfl:j=n:=by omega
    by_cases hz:ptE P j=0
    ·exact hz
    ·rw[Mg h2 hz (fun i hi=>ih i hi (by omega))]at h
     exact h
 exact fun j hj=>hall (j+1) j (by omega) hj
theorem Agc{ah:List ByteArray}{E:Ap}(h:A0 ah E=0):Nv E:=by
 have hg:=T6 h
 have h1:Bk E.name=true:=by
  cases hh:Bk E.name
  ·rw[O5 hh]at h;cases h
  ·rfl
 have h2:Cj ah E.name=false:=by
  cases hh:Cj ah E.name
  ·rfl
  ·rw[Nr h1 hh]at h;cases h
 have h3:Ep E=false:=by
  cases hh:Ep E
  ·rfl
  ·rw[Ns h1 h2 hh]at h;cases h
 have h4:Ij E.points=0:=by
  by_cases hh:Ij E.points=0
  ·exact hh
  ·rw[Q6 h1 h2 h3 hh]at h;exact h
 rw[Nq h1 h2 h3 h4]at h
 have hr:=Ue h
 have r0:=hr 0 (by decide)
 have r1:=hr 1 (by decide)
 simp only[B9]at r0 r1
 unfold Io at r0
 rw[Bool.or_eq_false_iff]at r0
 have s2:=r0.1
 simp only[T0,Q8,decide_eq_false_iff_not]at s2 r1
 refine⟨hg,h1,Qw h4,fun i j hi hj hji he=>?_,fun hc=>⟨?_,?_⟩,by omega⟩
 ·have hz:=zZ h4 i hi
  have hn:Bk E.points[i]=true:=Qw h4 _ (List.getElem_mem hi)
  have:ptE E.points i=6:=Xu hi hn (Ni j (by rw[List.length_take];omega) (by rw[List.getElem_take,he]))
  omega
 ·by_cases hh:E.mn=0
  ·exact hh
  ·exact absurd ⟨hc,.inl hh⟩ r1
 ·by_cases hh:E.mx=0
  ·exact hh
  ·exact absurd ⟨hc,.inr hh⟩ r1
theorem Ju{E:Ap}(h:Nv E){k:Int}(h0:0<=k)(hk:k<(E.points.length:Int)):Cn E.points (Bb E k)=k/\Bk (Bb E k)=true:=by
 obtain⟨n,rfl⟩:∃n:Nat,k=n:=⟨k.toNat,(Int.toNat_of_nonneg h0).symm⟩
 have hn:n<E.points.length:=by omega
 have e:Bb E (n:Int)=E.points[n]:=by
  unfold Bb
  rw[Int.toNat_natCast,List.getD_eq_getElem?_getD,List.getElem?_eq_getElem hn];rfl
 rw[e]
 refine⟨Qq hn rfl (fun j hj hjn hh=>?_),h.pts _ (List.getElem_mem hn)⟩
 refine h.dis n j hn hj hjn ?_
 rw[ByteArray.toList_eq,ByteArray.toList_eq]at hh
 exact Jh hh
theorem Aaf(n:Int)(h:0<=n)(b:UInt8)(hb:b.toNat<45):b∉B3 (.num n):=by
 obtain⟨m,rfl⟩:∃m:Nat,n=m:=⟨n.toNat,(Int.toNat_of_nonneg h).symm⟩
 show b∉Lib.itoa (m:Int)
 rw[Jt]
 intro hm
 have:=Gk m b hm
 simp only[Eu,decide_eq_true_eq]at this
 omega
theorem It{n:Int}(h:0<=n)(h2:n<=1099511627776):∃k:Nat,n=k/\Dz (Lc (.num n))=some k:=by
 obtain⟨m,rfl⟩:∃m:Nat,n=m:=⟨n.toNat,(Int.toNat_of_nonneg h).symm⟩
 exact⟨m,rfl,U1 m (by omega)⟩
def R6:W1->Prop
 |.str s=>Bk s=true\/s∈ [Ii,Je,N6,J2,Zb,N7,Sr,Su,Vt,U5]
 |.num n=>0<=n
theorem Vw{ws:List W1}(h:∀x∈ws,R6 x)(b:UInt8)(hb:b.toNat<45):Afh b ws:=by
 intro x hx
 have:=h x hx
 cases x with
 |num n=>exact Aaf n this b hb
 |str s=>
  rcases this with h1|h1
  ·exact Adl h1 b hb
  ·have hall:∀s∈ [Ii,Je,N6,J2,Zb,N7,Sr,Su,Vt,U5],∀c∈s.data.toList,45<=c.toNat:=by decide
   intro hm
   have:=hall s h1 b hm
   omega
def Jq(st:RdS):List ByteArray->Option RdS
 |[]=>some st
 |s::l=>if (A8 st s).1=0 then Jq (A8 st s).2 l else none
theorem Kw(st:RdS)(a b:List ByteArray){st':RdS}(h:Jq st a=some st'):Jq st (a++b)=Jq st' b:=by
 induction a generalizing st with
 |nil=>obtain rfl:=Option.some.inj h;rfl
 |cons s a ih=>
  simp only[Jq,List.cons_append]at h ⊢
  split at h
  ·next hz=>rw[if_pos hz];exact ih _ h
  ·cases h
theorem kT{st st':RdS}{s:ByteArray}(h:A8 st s=(0,st')):Jq st [s]=some st':=by simp[Jq,h]
theorem Po{st st1 st':RdS}{s:ByteArray}{l:List ByteArray}(h:A8 st s=(0,st1))(h2:Jq st1 l=some st'):Jq st (s::l)=some st':=by simp[Jq,h,h2]
end
end Go.Proofs.YtikehilbmldadaaGreatDoor
