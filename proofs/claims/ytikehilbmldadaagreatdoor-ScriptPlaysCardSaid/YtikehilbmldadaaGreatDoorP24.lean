import Derived.Test.YtikehilbmldadaaGreatDoorP11
set_option maxHeartbeats 2000000
set_option maxRecDepth 20000
set_option linter.unusedVariables false
namespace Go.Proofs.YtikehilbmldadaaGreatDoor
open Proofs.Tryz YtikehilbmldadaaGreatDoor.Tryz RowKit
open Go renaming World->V,Value->ZE,RowKit.Below->ZF,RowKit.Hid->ZG,Calls->ZH,Value.int->I,IntKind.i64->J,Value.slice->F,Value.string->ZB,Obj.cells->ZC,Ending.returned->ZD,Value.bool->ZK,Value.tuple->ZM,Proofs.Tryz.prog->ZI
open Option renaming some->U,none->O
theorem Qt(s:Nat)(d:1<=s)(a:s<=4294967296)(w:V):ZH ZI 171 #[I J s] w fun e w'=>e=ZD (I J ((s-1)%9:Nat))/\w=w':=by
 obtain⟨S,rfl⟩:∃S,s=S+1:=⟨s-1,by omega⟩
 have h1:(S:Int)<4294967296:=by omega
 clear d a;go_enter func171,ntmps171;go_wp2_with fail;go_ret;exact⟨by simp,rfl⟩
theorem rU(b k c:Nat):Id b (k+1) c=(Id b k c/2) ^^^ (if (Id b k c ^^^ (b>>>k))%2=1 then 3988292384 else 0):=rfl
theorem Alb(d b j:Nat)(e:d<4294967296)(a:b<256):bits .xor J (d:Int) (wrap64 (b:Int)/2 ^ j)=((d ^^^ b>>>j:Nat):Int):=by
 have h1:wrap64 (b:Int)=(b:Int):=Zy2 _ (by omega);have h2:(b:Int)/2 ^ j=((b>>>j:Nat):Int):=by
  rw[Zxq];simp
 have h3:b>>>j<=b:=by rw[Zxq];exact Nat.div_le_self _ _
 rw[h1,h2,Q3 _ _ (by omega) (by omega)]
theorem Aio(s:ByteArray)(w:V)(Q:s.size<=100000):ZH ZI 252 #[ZB s] w fun e w'=>e=ZD (I J (crc s.data.toList:Nat))/\w=w':=by
 have a:s.data.toList.length=s.size:=rfl;have HLEN:=G a;clear a;go_enter func252,ntmps252;go_wp2_with fail;go_loop [3,4] (fun t u=>∃k:Nat,k<=s.size/\t=I J (Eo (s.data.toList.take k) 4294967295:Nat)/\u=I J k) (fun _ u=>s.size-(intOf u).toNat);case atStart=>exact⟨0,In _,rfl,rfl⟩
 case round=>
  obtain⟨k,P,rfl,rfl⟩:=hrel;have n:Eo (s.data.toList.take k) 4294967295<4294967296:=Tk (by decide);by_cases q:k<s.size
  ·have y:=G (Us s.data.toList k (by rw[HLEN.out];exact q) 4294967295);obtain⟨c,i⟩:∃c,c=Eo (s.data.toList.take k) 4294967295:=⟨_,rfl⟩
   rw[<-i]at n y ⊢;have E:=G n;clear i n;go_wp2_with fail;go_loop [3,5] (fun t v=>∃j:Nat,j<=8/\t=I J (Id s[k].toNat j c:Nat)/\v=I J j) (fun _ v=>8-(intOf v).toNat);case atStart=>exact⟨0,In _,rfl,rfl⟩
   case round=>
    obtain⟨j,N,rfl,rfl⟩:=hrel;by_cases C:j<8
    ·have D:Id s[k].toNat j c<4294967296:=Abr E.out;have f:=G (rU s[k].toNat j c);generalize Id s[k].toNat j c=d at D f ⊢;have l:=Alb d s[k].toNat j D s[k].toNat_lt;by_cases o:(d ^^^ s[k].toNat>>>j)%2=1
     ·have g:((bits .xor J (d:Int) (wrap64 (s[k].toNat:Int)/2 ^ j)).tmod 2==1)=true:=by rw[l,Zyw (by omega)];simp;omega
      have A:bits .xor J ((d:Int)/2) 3988292384=((d/2 ^^^ 3988292384:Nat):Int):=by
       rw[show((d:Int)/2)=((d/2:Nat):Int)by omega,show(3988292384:Int)=((3988292384:Nat):Int)from rfl,Q3 _ _ (by omega) (by decide)]
      rw[if_pos o]at f;have p:=G A;clear l o A;go_wp2_with fail;go_round;case rel=>exact⟨j+1,by omega,by rw[p.out,f.out],by go_num⟩
      case measure=>simp[intOf];omega
     ·have g:((bits .xor J (d:Int) (wrap64 (s[k].toNat:Int)/2 ^ j)).tmod 2==1)=false:=by rw[l,Zyw (by omega)];simp;omega
      have p:ZG (((d:Int)/2)=((d/2 ^^^ 0:Nat):Int)):=G (by rw[Nat.xor_zero];omega);rw[if_neg o]at f;clear l o;go_wp2_with fail;go_round;case rel=>exact⟨j+1,by omega,by rw[p.out,f.out],by go_num⟩
      case measure=>simp[intOf];omega
    ·have H:j=8:=by omega
     go_wp2_with fail;go_round;case rel=>exact⟨k+1,by omega,by rw[y.out,H,Afx];rfl,by go_num⟩
     case measure=>simp[intOf];omega
  ·have M:bits .xor J (Eo (s.data.toList.take k) 4294967295:Nat) 4294967295=((4294967295-Eo (s.data.toList.take k) 4294967295:Nat):Int):=by
    rw[show(4294967295:Int)=((4294967295:Nat):Int)from rfl,Q3 _ _ (by omega) (by decide),Nat.xor_comm,Aei n]
   have K:ZG (4294967295-Eo (s.data.toList.take k) 4294967295=crc s.data.toList):=G (by
    unfold crc;rw[Zy0 (by rw[HLEN.out];omega)])
   go_wp2_with fail;go_ret;exact⟨A6 (by rw[K.out]),rfl⟩
theorem Vi(n:Int)(w:V):ZH ZI 162 #[I J n] w fun e w'=>e=ZD (ZB (Aw [UInt8.ofNat (n%256).toNat]))/\ZF w.heap.size w w':=by
 obtain⟨x,a⟩:∃x,x=UInt8.ofNat (n%256).toNat:=⟨_,rfl⟩
 have o:n%256=(x.toNat:Int):=by
  rw[a,UInt8.toNat_ofNat',Zy4 (by omega)];omega
 have d:ZF w.heap.size w (w.alloc (ZC #[I .u8 (x.toNat:Int)] 5)):=(R1 _ _).alloc (Y2 _) _;have f:=Ab w (ZC #[I .u8 (x.toNat:Int)] 5);have i:(convert 85 9 (F (U ⟨w.heap.size,0,O⟩) 1 1)).run ZI (w.alloc (ZC #[I .u8 (x.toNat:Int)] 5))=.ok (ZB (Aw [x])) (w.alloc (ZC #[I .u8 (x.toNat:Int)] 5)):=Hy (w.alloc (ZC #[I .u8 (x.toNat:Int)] 5)) w.heap.size 0 1 [x] (fun j l=>by
  have:j=0:=by simpa using l
  subst this;unfold World.cell?;simp only[Zzt];rw[f];rfl)
 rw[<-a];have g:=G d;clear a d f;go_enter func162,ntmps162;go_wp2_with fail;go_ret;exact⟨rfl,g.out⟩
theorem Afz(n many:Nat)(D:many<=8)(v:n<9223372036854775808)(w:V):ZH ZI 251 #[I J n,I J many] w fun e w'=>e=ZD (ZB (Aw (beB many n)))/\ZF w.heap.size w w':=by
 go_enter func251,ntmps251;go_wp2_with fail;go_loopw [0,5,6] (fun s0 C o wr=>∃i:Nat,i<=many/\s0=I J (n/256 ^ i:Nat)/\C=ZB (Aw (beB i n))/\o=I J i/\ZG (ZF w.heap.size w wr)) (fun _ _ o _=>many-(intOf o).toNat);case atStart=>exact⟨0,In _,by simp,rfl,rfl,R1 _ _⟩
 case round=>
  obtain⟨i,hi,rfl,rfl,rfl,f⟩:=hrel;by_cases u:i<many
  ·have y:n/256 ^ i<9223372036854775808:=Zxs (Nat.div_le_self _ _) v;have l:n/256 ^ i/256=n/256 ^ (i+1):=by rw[Nat.div_div_eq_div_mul,Zx9]
   obtain⟨p,a⟩:∃p,p=n/256 ^ i:=⟨_,rfl⟩
   have q:=G (Zq i n);rw[<-a]at y l q ⊢;have E:(Aw (beB i n)).size=i:=by rw[Bz,Cz]
   have A:(Aw [UInt8.ofNat p]).size=1:=by rw[Bz];rfl
   have j:ZG (∀W,ZH ZI 162 #[I J ((p:Int)%256)] W fun e w'=>e=ZD (ZB (Aw [UInt8.ofNat p]))/\ZF W.heap.size W w'):=(show _ from fun W=>by
    have:=Vi ((p:Int)%256) W;rw[show UInt8.ofNat ((p:Int)%256%256).toNat=UInt8.ofNat p from by
     apply UInt8.toNat_inj.1;rw[UInt8.toNat_ofNat',UInt8.toNat_ofNat'];omega]at this
    exact this)
   have d:ZG (Aw [UInt8.ofNat p]++Aw (beB i n)=Aw (beB (i+1) n)):=G (by rw[q.out,Iz];rfl);have t:=G l;clear a l;go_wp2_with fail;refine(j _).mono ?_;rintro e w1 ⟨rfl,s⟩;have g:=G (f.out.trans (s.mono f.size));clear s;go_wp2_with fail;go_roundw;case rel=>exact⟨i+1,by omega,by rw[<-t.out];simp,by rw[d.out],by go_num,g⟩
   case measure=>simp[intOf];omega
  ·obtain rfl:i=many:=by omega
   go_wp2_with fail;go_ret;exact⟨rfl,f.out⟩
theorem Vk(r:Ap)(h:qU r)(w:V):ZH ZI 217 #[Aq r] w fun e w'=>e=ZD (ZB (Aw (A0 r)))/\ZF w.heap.size w w':=by
 obtain⟨h1,h2,h3,q⟩:=h;have f:∀(n many:Nat) (m:Int) (W:V),n<9223372036854775808->many<=8->m=many->BK r w.heap.size w W->ZH ZI 251 #[I J n,I J m] W fun e w'=>e=ZD (ZB (Aw (beB many n)))/\BK r w.heap.size w w':=by
  intro n many m W u t e s;subst e;refine(Afz n many t u W).mono ?_;rintro e w1 ⟨rfl,b⟩;exact⟨rfl,s.below b⟩
 have a:=G f;have k0:BK r w.heap.size w (w.alloc (D7 r)):=⟨Ab _ _,(R1 _ _).alloc (Y2 _) _,Y2 _⟩
 have d:=G k0;unfold D7 at d;clear k0 f;unfold Aq;go_enter func217,ntmps217;go_wp2_with fail;generalize w.alloc _=w0 at d ⊢;have z1:(Aw (beB 4 r.seq)).size=4:=by rw[Bz,Cz]
 have z2:(Aw (beB 1 r.ent)).size=1:=by rw[Bz,Cz]
 have D:(Aw (beB 1 r.kind)).size=1:=by rw[Bz,Cz]
 have E:(Aw (beB 6 r.tick)).size=6:=by rw[Bz,Cz]
 go_cut [3] (fun A C=>A=ZB (Aw (Cg r))/\BK r w.heap.size w C);case first=>
  go_region_held3 (fun w'=>w'.cell? ⟨w.heap.size,0,O⟩=U (I J r.seq)/\w'.cell? ⟨w.heap.size,1,O⟩=U (I J r.ent)/\w'.cell? ⟨w.heap.size,2,O⟩=U (I J r.kind)/\w'.cell? ⟨w.heap.size,3,O⟩=U (I J r.tick))
   (first|exact d.cells|exact k1.cells|exact i.cells|exact j.cells|exact l.cells)
   (first|(go_at_call_of 251 (Value.int J r.seq);refine(a r.seq 4 4 _ h1 (by decide) rfl ?_).mono ?_;(repeat(first|exact d.out|refine BK.drew ?_));rintro e w1 ⟨rfl,k1⟩)|(go_at_call_of 251 (Value.int J r.ent);refine(a r.ent 1 1 _ h2 (by decide) rfl ?_).mono ?_;(repeat(first|exact k1|refine BK.drew ?_));rintro e K ⟨rfl,i⟩)|(go_at_call_of 251 (Value.int J r.kind);refine(a r.kind 1 1 _ h3 (by decide) rfl ?_).mono ?_;(repeat(first|exact i|refine BK.drew ?_));rintro e M ⟨rfl,j⟩)|(go_at_call_of 251 (Value.int J r.tick);refine(a r.tick 6 6 _ q (by decide) rfl ?_).mono ?_;(repeat(first|exact j|refine BK.drew ?_));rintro e N ⟨rfl,l⟩))
  all_goals(go_wp2_with fail;go_meet)
  all_goals(refine⟨?_,by repeat(first|exact l|refine BK.drew ?_)⟩;simp only[Iz,Cg])
 case rest=>
 obtain⟨rfl,g⟩:=hcut;have p:=G g;have v:(Aw (Cg r)).size<=100000:=by rw[Bz,Ip];decide
 have o:ZG (Aw (Cg r)++Aw (beB 4 (crc (Cg r)))=Aw (A0 r)):=G (Iz _ _);have H:=Ad4 (Cg r);have Q:(Aw (Cg r)).size=12:=by rw[Bz,Ip]
 have R:(Aw (beB 4 (crc (Cg r)))).size=4:=by rw[Bz,Cz]
 clear g d z1 z2 D E;go_wp2_with fail;refine(Aio _ _ v).mono ?_;rintro e w' ⟨rfl,rfl⟩;rw[Ik];go_wp2_with fail;refine(a _ 4 4 _ (by omega) (by decide) rfl p.out).mono ?_;rintro e P ⟨rfl,y⟩;go_wp2_with fail;go_ret;exact⟨by rw[<-o.out];rfl,y.bel⟩
def Jq:Nat->Nat
 |0=>0
 |1=>4
 |2=>5
 |3=>6
 |_+4=>12
theorem Am7(i:Nat)(hi:i<4):Jq i<=Jq (i+1)/\Jq (i+1)<=12/\Jq (i+1)<=Jq i+6:=by
 match i,hi with
 |0,_=>decide
 |1,_=>decide
 |2,_=>decide
 |3,_=>decide
def Y9(s:List UInt8)(i:Nat):Nat:=Ez ((s.drop (Jq i)).take (Jq (i+1)-Jq i))
theorem Akd(s:List UInt8)(i j:Nat)(h1:Jq i<=j)(h2:j<s.length):Ez ((s.drop (Jq i)).take (j+1-Jq i))=256*Ez ((s.drop (Jq i)).take (j-Jq i))+s[j].toNat:=by
 rw[show j+1-Jq i=(j-Jq i)+1 by omega,Ya _ _ (by rw[B2];omega),List.getElem_drop];simp only[show Jq i+(j-Jq i)=j by omega]
theorem Am6(s:List UInt8)(a n:Nat)(h:n<=5):Ez ((s.drop a).take n)<1099511627776:=by
 have d:=Gj ((s.drop a).take n);have e:((s.drop a).take n).length<=5:=by rw[By];omega
 exact F5 d (Zza (n:=256) (by decide) e)
structure Zy (w0 wr:V) (i:Nat) (s:List UInt8) (ao:Option Addr) (cap:Nat):Prop where
 bel:ZF w0.heap.size w0 wr
 zero:wr.heap[w0.heap.size]? =U (D7 ⟨0,0,0,0⟩)
 ends:wr.heap[w0.heap.size+1]? =U (ZC #[I J 4,I J 5,I J 6,I J 12] 3)
 row:wr.ownsRow (w0.heap.size+2) 3 1 (F ao i cap) i (Ad ((List.range i).map fun k=>((Y9 s k:Nat):Int)))
theorem Al2{w:V}{e:Nat}(h:w.heap[e]? =U (ZC #[I J 4,I J 5,I J 6,I J 12] 3))(i:Nat)(hi:i<4):w.cell? ⟨e,i,O⟩=U (I J ((Jq (i+1):Nat):Int)):=by
 obtain⟨h0,h1,h2,h3⟩:=Ay h;match i,hi with
 |0,_=>exact h0
 |1,_=>exact h1
 |2,_=>exact h2
 |3,_=>exact h3
theorem wH(w:V)(s:List UInt8):Zy w ((w.alloc (D7 ⟨0,0,0,0⟩)).alloc (ZC #[I J 4,I J 5,I J 6,I J 12] 3)) 0 s O 0:=by
 obtain⟨h1,h2,h3,_⟩:=kL w (D7 ⟨0,0,0,0⟩) (ZC #[I J 4,I J 5,I J 6,I J 12] 3);exact⟨h3,h1,h2,Zzr _ _ _ _⟩
theorem sO(a b:List Int):Ad (a++b)=Ad a++Ad b:=by simp[Ad]
theorem Abp{w0 wr a:V}{i:Nat}{s:List UInt8}{ao a1:Option Addr}{cap k1:Nat}{o:Obj}(h:Zy w0 wr i s ao cap)(j:a.ownsRow (w0.heap.size+2) 3 1 (F a1 (i+1) k1) (i+1) (Ad ((List.range i).map fun k=>((Y9 s k:Nat):Int))++Ad [((Y9 s i:Nat):Int)]))
  (g:(wr.alloc o).grownBy a (Value.slice ao i cap).ownBlock):Zy w0 a (i+1) s a1 k1:=by
 have d:Ac (fun b=>w0.heap.size+2<=b) wr a:=((Ac.refl _ wr).alloc _).trans ((Ac.of_grown g).mono (fun b e f=>by
  have:=(h.row.lt b f.symm).1;exact this))
 refine⟨h.bel.trans (d.below h.bel.size (fun b e=>by omega)),d.get h.zero (by omega),d.get h.ends (by omega),?_⟩;rw[Zz4,B0,sO,Zzb];exact j
theorem Vj(w:V):ZH ZI 162 #[I J 165] w fun e w'=>e=ZD (ZB (Aw [165]))/\ZF w.heap.size w w':=Vi 165 w
theorem Y0(k:Nat)(s:List UInt8):Do k s=if 1<=(Nf s).seq/\((Nf s).seq-1)%9=k/\A0 (Nf s)++ [165]=s then U (Nf s) else O:=rfl
theorem Af2(k:Nat)(hk:k<9)(b:ByteArray)(hb:(k+1)*17<=b.size)(bk:b.size<=100000)(w:V):
  ZH ZI 170 #[ZB b,I J k] w fun e w'=>e=ZD (ZM #[Aq (Tx (Bg b.data.toList k)),ZK (Bg b.data.toList k).isSome])/\ZF w.heap.size w w':=by
 obtain⟨i0,bn,bs,bt,bu⟩:=info_parts infoInt;obtain⟨s,Q⟩:∃s,s=b.extract (k*17) ((k+1)*17):=⟨_,rfl⟩
 have H:s.data.toList.length=17:=by
  show s.size=17
  rw[Q,yP _ _ _ hb];omega
 have HA:ZG (Bg b.data.toList k=Do k s.data.toList):=G (by
  rw[Q,yQ,show(k+1)*17-k*17=17 by omega];rfl)
 have ac:=wH w s.data.toList;unfold D7 at ac;have X:=G ac;clear ac;go_enter func170,ntmps170;go_wp2_with fail;rw[<-Q];have HS17:=G H;have co:s.size=17:=H;clear Q H hb bk;generalize(w.alloc _).alloc _=w1 at X ⊢;go_loopw [7,8,10,11] (fun s7 s8 K ad wr=>∃(i n:Nat) (ao:Option Addr) (cap:Nat),i<=4/\s7=I J n/\s8=F ao i cap/\K=I J (Jq i:Nat)/\ad=I J i/\ZG (Zy w wr i s.data.toList ao cap)) (fun _ _ _ ad _=>4-(intOf ad).toNat);case atStart=>exact⟨0,0,O,0,In _,rfl,rfl,rfl,rfl,X⟩
 case round=>
  obtain⟨i,n,ao,cap,cl,rfl,rfl,rfl,rfl,HR⟩:=hrel;clear X;by_cases hi:i<4
  ·have ck:(i:Int)<4:=by omega
   have q:=Al2 HR.ends i hi;obtain⟨e1,e2,e3⟩:=Am7 i hi;obtain⟨l,N⟩:∃E,E=Jq i:=⟨_,rfl⟩
   obtain⟨E1,P⟩:∃E,E=Jq (i+1):=⟨_,rfl⟩
   rw[<-P]at q e1 e2 e3;rw[<-N]at e1 e3 ⊢;have HF:ZG (Ez ((s.data.toList.drop l).take (E1-l))=Y9 s.data.toList i):=G (by rw[N,P];rfl);have al:ZG (∀j,l<=j->(hj:j<s.data.toList.length)->Ez ((s.data.toList.drop l).take (j+1-l))=256*Ez ((s.data.toList.drop l).take (j-l))+s.data.toList[j].toNat):=(show _ from fun j h1 h2=>by rw[N]at h1 ⊢;exact Akd _ i j h1 h2)
   have a8:=G P;clear N P;go_wp2_with fail;go_loop [7,10] (fun s7 K=>∃j:Nat,l<=j/\j<=E1/\s7=I J (Ez ((s.data.toList.drop l).take (j-l)):Nat)/\K=I J j) (fun _ K=>E1-(intOf K).toNat);case atStart=>exact⟨l,Y2 _,e1,by simp[Ez],rfl⟩
   case round=>
    obtain⟨j,ar,bo,rfl,rfl⟩:=hrel;by_cases hj:j<E1
    ·have hb:Ez ((s.data.toList.drop l).take (j-l))<1099511627776:=Am6 _ _ _ (by omega);have HM:=G (al j ar (by rw[HS17.out];omega));generalize Ez ((s.data.toList.drop l).take (j-l))=m at hb HM ⊢;have cn:j<s.size:=by omega
     have cq:wrap64 (s[j].toNat:Int)=(s[j].toNat:Int):=Zy2 _ (by have:=s[j].toNat_lt;omega);have ci:=s[j].toNat_lt;go_wp2_with fail;go_round;case rel=>exact⟨j+1,by omega,by omega,by rw[HM.out];rfl,by go_num⟩
     case measure=>simp[intOf];omega
    ·obtain rfl:j=E1:=by omega
     rw[HF.out];have bh:ZG (i+1<=maxLen):=by show i+1<=maxLen;unfold maxLen;omega
     have bm:ZG ((i+1)*8<=140737488355328):=by show(i+1)*8<=140737488355328;omega
     have bl:ZG (∀o,w.heap.size+2<=(wr.alloc o).heap.size):=fun o=>by
      have:=Aa HR.ends;rw[H7];omega
     obtain⟨a,hF⟩:∃a,a=Y9 s.data.toList i:=⟨_,rfl⟩
     rw[<-hF];have a9:=G hF;clear e1 e2 e3 ar bo hj al hF;go_wp2_with (at_builtin;go_must (refine Bc rfl (.tmp 40) (.tmp 42) 48 rfl (w.heap.size+2) 3 i0 _ 1 8 underlying48 bn bs bt bu rfl (by decide) _ i _ rfl (HR.row.alloc _) ⟨wr.heap.size,0,O⟩ 1 1 (Ad [(a:Int)]) rfl rfl (A1 _ (Ad [(a:Int)]) _) (El _) bh bm (bl _) ?_;intro a1 k1 w6 aa aq));have bb:ZG (Zy w w6 (i+1) s.data.toList a1 k1):=G (by
      rw[a9.out]at aa;exact Abp HR aa aq)
     clear aa aq;go_roundw;case rel=>exact⟨i+1,a,a1,k1,by omega,rfl,rfl,by rw[a8.out],by go_num,bb⟩
     case measure=>simp[intOf];omega
  ·have cm:4<=(i:Int):=by omega
   obtain⟨r,hr⟩:∃r,r=Nf s.data.toList:=⟨_,rfl⟩
   have Y:Zy w wr 4 s.data.toList ao cap:=by
    have e:i=4:=by omega
    rw[<-e];exact HR.out
   obtain⟨lb,lo,bj,_,bp,hc⟩:=I4 (by
    have:=Ge Y.row;rw[show(4:Nat)=((List.range 4).map fun k=>((Y9 s.data.toList k:Nat):Int)).length from rfl]at this;exact this) (by simp)
   subst bj;have q0:wr.cell? ⟨lb,lo,O⟩=U (I J (r.seq:Int)):=by rw[hr];exact hc 0 (by simp)
   have q1:wr.cell? ⟨lb,lo+1,O⟩=U (I J (r.ent:Int)):=by rw[hr];exact hc 1 (by simp)
   have q2:wr.cell? ⟨lb,lo+2,O⟩=U (I J (r.kind:Int)):=by rw[hr];exact hc 2 (by simp)
   have q3:wr.cell? ⟨lb,lo+3,O⟩=U (I J (r.tick:Int)):=by rw[hr];exact hc 3 (by simp)
   have av:¬lb=wr.heap.size:=by omega
   have br:¬wr.heap.size=lb:=by omega
   have am:=G hr;have A:=G Y;have hm:r.seq<4294967296/\qU r:=by
    have h1:=Gj (s.data.toList.take 4);have h2:=Gj ((s.data.toList.drop 4).take 1);have h3:=Gj ((s.data.toList.drop 5).take 1);have h4:=Gj ((s.data.toList.drop 6).take 6);simp only[By,B2,HS17.out]at h1 h2 h3 h4;subst hr;exact⟨h1,Zx0 h1 (by decide),Zx0 h2 (by decide),Zx0 h3 (by decide),Zx0 h4 (by decide)⟩
   have ak:=G hm;clear hc hr Y hm HR;go_wp2_with fail;go_cut [12] (fun bv wx=>bv=.pointer (U ⟨wr.heap.size,0,O⟩)/\BK r wr.heap.size wr wx);case first=>
    go_region;all_goals(go_wp2_with fail;go_meet)
    all_goals exact⟨rfl,⟨Ab wr (D7 r),((R1 _ _).alloc (Y2 _) _).drew,Y2 _⟩⟩
   case rest=>
   obtain⟨rfl,D⟩:=hcut;obtain⟨bq,au⟩:=ak.out;have an:=A.bel.trans (D.bel.mono A.bel.size);have hz:=Ae D.bel A.zero (Aa A.zero);have HK:=G D;have g:=G an;have HZ:=G hz;obtain⟨c0,c1,c2,c3⟩:=D.cells;obtain⟨z0,z1,z2,z3⟩:=Ay hz;have zf:∀o,wc.frozen? ⟨w.heap.size,o,O⟩=false:=by intro o;unfold D7 at hz;simp[World.frozen?,hz]
   have HM:=G au;obtain⟨ra,aw⟩:∃ra,ra=wr.heap.size:=⟨_,rfl⟩
   rw[<-aw]at c0 c1 c2 c3 HK ⊢;clear D hz au an q0 q1 q2 q3 av br A ak bp aw;have d:¬(1<=r.seq/\(r.seq-1)%9=k/\A0 r++ [165]=s.data.toList)->Do k s.data.toList=O:=fun h=>by
    rw[Y0,<-am.out,if_neg h]
   by_cases h1:r.seq<1
   ·have T:=G (d (by omega));have hd:decide ((r.seq:Int)<1)=true:=On (by omega);clear d;go_wp2_with fail;refine bodyPost_ret (v:=ZM #[Aq ⟨0,0,0,0⟩,ZK false]) (by simp[Aq,results,results170,go_sem,z0,z1,z2,z3,O2,O1]) rfl ?_;exact⟨by rw[HA.out,T.out];rfl,(((g.setCell (p:=⟨w.heap.size,0,O⟩) (Y2 _) _).setCell (p:=⟨w.heap.size,1,O⟩) (Y2 _) _).setCell (p:=⟨w.heap.size,2,O⟩) (Y2 _) _).setCell (p:=⟨w.heap.size,3,O⟩) (Y2 _) _⟩
   have hd:decide ((r.seq:Int)<1)=false:=N1 (by omega);have av:(1:Int)<=r.seq:=by omega
   have M:=G (Qt r.seq (by omega) (by omega));obtain⟨S9,Z⟩:∃S9,S9=(r.seq-1)%9:=⟨_,rfl⟩
   rw[<-Z]at M d;have u:ZG (Do k s.data.toList=if 1<=r.seq/\S9=k/\A0 r++ [165]=s.data.toList then U r else O):=G (by
    rw[Y0,<-am.out,<-Z])
   clear Z bq;by_cases h2:S9=k
   ·have bg:((S9:Int) != (k:Int))=false:=by simp;omega
    have cg:(Aw (A0 r)).size=16:=by rw[Bz,B7]
    have ch:(Aw [165]).size=1:=rfl;have t:((Aw (A0 r)++Aw [165]).toList=s.toList)↔A0 r++ [165]=s.data.toList:=by
     rw[Iz,Zz3,Zz3,Ik]
    by_cases h3:A0 r++ [165]=s.data.toList
    ·have ht:((Aw (A0 r)++Aw [165]).toList==s.toList)=true:=by simp[t,h3]
     have T:ZG (Do k s.data.toList=U r):=G (by
      rw[u.out,if_pos ⟨by omega,h2,h3⟩])
     clear d h2 h3 t u;go_wp2_with fail;refine(M _).mono ?_;rintro e w' ⟨rfl,rfl⟩;go_wp2_with fail;refine(Vk r HM _).mono ?_;rintro e w5 ⟨rfl,R⟩;have ba:=G (HK.below R);have C:=G (Ae R HZ (Aa HZ.out));have y:=G (g.out.trans (R.mono g.size));clear z0 z1 z2 z3 zf c0 c1 c2 c3 R HK HZ g;go_wp2_with fail;refine(Vj _).mono ?_;rintro e w6 ⟨rfl,S⟩;obtain⟨q0,q1,q2,q3⟩:=(ba.below S).cells;have f:=Ae S C (Aa C.out);obtain⟨y0,y1,y2,y3⟩:=Ay f;have yf:∀o,w6.frozen? ⟨w.heap.size,o,O⟩=false:=by intro o;unfold D7 at f;simp[World.frozen?,f]
     have HB:=G (y.out.trans (S.mono y.size));clear S f;go_wp2_with fail;refine bodyPost_ret (v:=ZM #[Aq r,ZK true]) (by simp[Aq,results,results170,go_sem,y0,y1,y2,y3,O2,O1]) rfl ?_;exact⟨by rw[HA.out,T.out];rfl,(((HB.setCell (p:=⟨w.heap.size,0,O⟩) (Y2 _) _).setCell (p:=⟨w.heap.size,1,O⟩) (Y2 _) _).setCell (p:=⟨w.heap.size,2,O⟩) (Y2 _) _).setCell (p:=⟨w.heap.size,3,O⟩) (Y2 _) _⟩
    ·have ht:((Aw (A0 r)++Aw [165]).toList==s.toList)=false:=by simp[t,h3]
     have T:ZG (Do k s.data.toList=O):=G (by
      rw[u.out,if_neg (fun h=>h3 h.2.2)])
     clear d h2 h3 t u;go_wp2_with fail;refine(M _).mono ?_;rintro e w' ⟨rfl,rfl⟩;go_wp2_with fail;refine(Vk r HM _).mono ?_;rintro e w5 ⟨rfl,R⟩;have C:=G (Ae R HZ (Aa HZ.out));have y:=G (g.out.trans (R.mono g.size));clear z0 z1 z2 z3 zf c0 c1 c2 c3 R HK HZ g;go_wp2_with fail;refine(Vj _).mono ?_;rintro e w6 ⟨rfl,S⟩;have f:=Ae S C (Aa C.out);obtain⟨y0,y1,y2,y3⟩:=Ay f;have yf:∀o,w6.frozen? ⟨w.heap.size,o,O⟩=false:=by intro o;unfold D7 at f;simp[World.frozen?,f]
     have HB:=G (y.out.trans (S.mono y.size));clear S f;go_wp2_with fail;refine bodyPost_ret (v:=ZM #[Aq ⟨0,0,0,0⟩,ZK false]) (by simp[Aq,results,results170,go_sem,y0,y1,y2,y3,O2,O1]) rfl ?_;exact⟨by rw[HA.out,T.out];rfl,(((HB.setCell (p:=⟨w.heap.size,0,O⟩) (Y2 _) _).setCell (p:=⟨w.heap.size,1,O⟩) (Y2 _) _).setCell (p:=⟨w.heap.size,2,O⟩) (Y2 _) _).setCell (p:=⟨w.heap.size,3,O⟩) (Y2 _) _⟩
   ·have T:ZG (Do k s.data.toList=O):=G (by
     rw[u.out,if_neg (fun h=>h2 h.2.1)])
    have bg:((S9:Int) != (k:Int))=true:=by simp;omega
    clear d h2 u;go_wp2_with fail;refine(M _).mono ?_;rintro e w' ⟨rfl,rfl⟩;go_wp2_with fail;refine bodyPost_ret (v:=ZM #[Aq ⟨0,0,0,0⟩,ZK false]) (by simp[Aq,results,results170,go_sem,z0,z1,z2,z3,O2,O1]) rfl ?_;exact⟨by rw[HA.out,T.out];rfl,(((g.setCell (p:=⟨w.heap.size,0,O⟩) (Y2 _) _).setCell (p:=⟨w.heap.size,1,O⟩) (Y2 _) _).setCell (p:=⟨w.heap.size,2,O⟩) (Y2 _) _).setCell (p:=⟨w.heap.size,3,O⟩) (Y2 _) _⟩
theorem To{P:Program}{w:V}{S:Array Oper}{rest:List Oper}{o:Oper}{a:Act}{Q:Exit->Act->V->Prop}(M:o.guard=O)(s x:Operand)(t:TypeId)
  (ho:o.op=.call { callee:=.builtin .append,args:=#[s,x],argTypes:=#[t,t]})
  (f:Nat) (e:TypeId) (i:TypeInfo) (z:ZE) (size l:Nat) (ht:P.underlying t=U (.slice e)) (hi:P.info? e=U i) (hz:i.zero=U z)
  (H:i.size=size) (Z:i.bytes=l) (ac:z.cells.size=size) (ab:0<size)
  (v:ZE) (n:Nat) (T:List ZE) (hs:a.eval s=v) (d:w.ownsRow f e size v n T)
  (R:Nat->Prop) (y:ZE) (m:Nat) (A:List ZE) (hx:a.eval x=y) (aa:Av R w y size A m) (h1:∀u∈A,u.oneCell'=true)
  (Y:n+m<=maxLen) (p:(n+m)*l<=140737488355328) (C:f<=w.heap.size)
  (h:∀ao cap w',w'.ownsRow f e size (F ao (n+m) cap) (n+m) (T++A)->w.grownBy w' v.ownBlock->wpList P S Q rest (a.put o.dst (F ao (n+m) cap)) w'):
  wpList P S Q (o::rest) a w:=by
 obtain⟨hl,ao,cap,rfl,aq,an,E,q⟩:=aa;cases ao with
 |none=>
  obtain rfl:=E rfl;obtain rfl:m=0:=by omega
  obtain rfl:A= []:=H3 (by simpa using hl);refine wpList_append_own_none M s x t ho f e i size ht hi v n T hs d hx ?_;have K:w.grownBy w v.ownBlock:=⟨rfl,rfl,rfl,Y2 _,fun _ _ _=>rfl⟩
  rw[Zz8,Zzw]at h;rcases d.2 with⟨N,hn⟩|⟨g,cap,ak,N,_⟩
  ·subst hn;have X:=h O 0 w (by rw[N]at d;exact d) K;rw[N];exact X
  ·have X:=h (U ⟨g,0,O⟩) cap w (by rw[N]at d;exact d) K;rw[N];exact X
 |some ad=>
  have D:∀j u,A[j]? =U u->w.cell? (ad.add j)=U u:=by
   intro j u hu;have hj:j<A.length:=(List.getElem?_eq_some_iff.1 hu).1;obtain⟨b,off,ha,_,_,hc⟩:=q (by omega);obtain rfl:=Option.some.inj ha;rw[Dt];exact hc j u hu
  exact Bc M s x t ho f e i z size l ht hi hz H Z ac ab v n T hs d ad m cap A hx hl D h1 Y p C h
theorem rV(H:Nat->Option Ap)(n:Nat):Ey H 8 (Ew H n)=Ey H (8-([]:List Ap).length) (Ew H n)++ []:=by rw[Zz8];rfl
theorem rK(H:Nat->Option Ap)(f:Nat):Ey H f 0= []:=by cases f<;>rfl
theorem rL{H:Nat->Option Ap}{f s:Nat}(h:H (s%9)=O):Ey H (f+1) (s+1)= []:=by
 unfold Ey;rw[h]
theorem rN{H:Nat->Option Ap}{f s:Nat}{r:Ap}(h:H (s%9)=U r)(a:r.seq≠s+1):Ey H (f+1) (s+1)= []:=by
 unfold Ey;rw[h];simp only;rw[if_neg a]
theorem Ahu{H:Nat->Option Ap}{k:Nat}(h:H k=O):Ew H (k+1)=Ew H k:=by
 show max (Ew H k) (Nd H k)=_
 unfold Nd;rw[h];simp
theorem Aht{H:Nat->Option Ap}{k:Nat}{r:Ap}(h:H k=U r):Ew H (k+1)=max (Ew H k) r.seq:=by
 show max (Ew H k) (Nd H k)=_
 unfold Nd;rw[h]
theorem Al9(b:List UInt8)(n:Nat):Ew (Bg b) n<4294967296:=by
 rcases Uw (Bg b) n with h|⟨k,x,h1,h2,h3⟩
 ·omega
 ·have:=(Lc b k x h2).1.s2;omega
structure Eqd {α:Type} (a b:α):Prop where
 out:a=b
structure Ans (H:Nat->Option Ap) (T:Nat) (r:Ap):Prop where
 held:H (T%9)=U r
 seq:r.seq=T+1
structure Zz (l:List UInt8) (w0 wr:V) (S:Nat) (out:List Ap) (ao:Option Addr) (cap:Nat):Prop where
 lt:S<4294967296
 few:out.length<=8
 rest:Fg l=Ey (Bg l) (8-out.length) S++out
 row:wr.ownsRow w0.heap.size 147 4 (F ao out.length cap) out.length (out.flatMap Ao)
 bel:ZF w0.heap.size w0 wr
theorem Abu{l:List UInt8}{w0 wr w3 a:V}{S T:Nat}{out:List Ap}{ao d f:Option Addr}{cap j n:Nat}{r:Ap}(h:Zz l w0 wr S out ao cap)(p:S=T+1)(t:out.length<8)(i:Ans (Bg l) T r)(g:ZF w0.heap.size w0 w3)
  (h3:w3.ownsRow w0.heap.size 147 4 (F d 1 j) 1 (Ao r)) (o:a.ownsRow w0.heap.size 147 4 (F f (1+out.length) n) (1+out.length) (Ao r++out.flatMap Ao)) (q:w3.grownBy a (Value.slice d 1 j).ownBlock):Zz l w0 a T (r::out) f n:=by
 have e:(r::out).length=1+out.length:=by simp;omega
 refine⟨by have:=h.lt;omega,by omega,?_,?_,g.grown q g.size (fun k s=>(h3.lt k s).1)⟩
 ·rw[h.rest,p,show 8-out.length=(8-(r::out).length)+1 from by omega,vZ i.held i.seq,F6];rfl
 ·rw[e];exact o
theorem Vl{w w':V}{a:Nat}{e:TypeId}{size:Nat}{v:ZE}{n:Nat}{d:List ZE}(h:w.ownsRow a e size v n d)(b:ZF w.heap.size w w'):w'.ownsRow a e size v n d:=
 Ff h (Ac.of_below b) (fun _ _ h1 h2=>by omega)
theorem Yb(b:ByteArray)(hb:153<=b.size)(af:b.size<=100000)(w:V):
  ZH ZI 101 #[ZB b] w fun e w'=>∃ao cap,e=ZD (F ao (Fg b.data.toList).length cap)/\w'.ownsRow w.heap.size 147 4 (F ao (Fg b.data.toList).length cap) (Fg b.data.toList).length ((Fg b.data.toList).flatMap Ao)/\ZF w.heap.size w w':=by
 obtain⟨i0,am,av,aw,ax⟩:=info_parts infoRec;obtain⟨l,hl⟩:∃l,l=b.data.toList:=⟨_,rfl⟩
 have HH:ZG (∀(k:Nat) (W:V),k<9->ZH ZI 170 #[ZB b,I J k] W fun e w'=>e=ZD (ZM #[Aq (Tx (Bg l k)),ZK (Bg l k).isSome])/\ZF W.heap.size W w'):=(show _ from fun k W hk=>by
  rw[hl];exact Af2 k hk b (by omega) af W)
 rw[<-hl];clear hl hb af;go_enter func101,ntmps101;go_wp2_with fail;go_loopw [3,4] (fun s3 s4 wr=>∃k:Nat,k<=9/\s3=I J (Ew (Bg l) k:Nat)/\s4=I J k/\ZG (ZF w.heap.size w wr)) (fun _ s4 _=>9-(intOf s4).toNat);case atStart=>exact⟨0,In _,rfl,rfl,R1 _ _⟩
 case round=>
  obtain⟨k,hk,rfl,rfl,X⟩:=hrel;by_cases Q:k<9
  ·have bq:(k:Int)<9:=by omega
   go_wp2_with fail;refine(HH k _ Q).mono ?_;rintro e w1 ⟨rfl,j⟩;cases q:Bg l k with
   |none=>
    have HN:=G (Ahu q);obtain⟨n,_⟩:=Al7 w1 (I J 0) (I J 0) (I J 0) (I J 0) 147;have p:=G (X.out.trans ((j.trans (n.mono j.size)).mono X.size));rw[show Aq (Tx O)=.agg #[I J 0,I J 0,I J 0,I J 0] from rfl,show(O:Option Ap).isSome=false from rfl];clear n j q;go_wp2_with fail;go_roundw;case rel=>exact⟨k+1,by omega,by rw[HN.out],by go_num,p⟩
    case measure=>simp[intOf];omega
   |some r=>
    have HN:=G (Aht q);obtain⟨n,y,A,C,D,_⟩:=Al7 w1 (I J r.seq) (I J r.ent) (I J r.kind) (I J r.tick) 147;have p:=G (X.out.trans ((j.trans (n.mono j.size)).mono X.size));rw[show Aq (Tx (U r))=.agg #[I J r.seq,I J r.ent,I J r.kind,I J r.tick] from rfl,show(U r:Option Ap).isSome=true from rfl];obtain⟨B,hB⟩:∃B,B=Ew (Bg l) k:=⟨_,rfl⟩
    rw[<-hB]at HN ⊢;clear n j q hB;go_upto_region 6 with fail;obtain⟨a1,d⟩:∃a,a=w1.heap.size:=⟨_,rfl⟩
    rw[<-d]at y A C D ⊢;generalize w1.alloc _=w2 at p y A C D ⊢;clear d;by_cases b0:B<r.seq
    ·have HM:ZG (max B r.seq=r.seq):=G (by omega);go_wp2_with fail;go_roundw;case rel=>exact⟨k+1,by omega,by rw[HN.out,HM.out],by go_num,p⟩
     case measure=>simp[intOf];omega
    ·have HM:ZG (max B r.seq=B):=G (by omega);go_wp2_with fail;go_roundw;case rel=>exact⟨k+1,by omega,by rw[HN.out,HM.out],by go_num,p⟩
     case measure=>simp[intOf];omega
  ·have an:k=9:=by omega
   have bp:9<=(k:Int):=by omega
   have E:ZG (Zz l w wr (Ew (Bg l) k) [] O 0):=G (⟨Al9 l k,In _,by rw[an];exact rV _ _,Zzr _ _ _ _,X.out⟩);generalize Ew (Bg l) k=B at E ⊢;clear an X;go_wp2_with fail;go_loopw [7,8] (fun s7 s8 wr2=>∃(S:Nat) (out:List Ap) (ao:Option Addr) (cap:Nat),s7=F ao out.length cap/\s8=I J S/\ZG (Zz l w wr2 S out ao cap)) (fun _ s8 _=>(intOf s8).toNat);case atStart=>exact⟨B,[],O,0,rfl,rfl,E⟩
   case round=>
    obtain⟨S,out,ao,cap,rfl,rfl,g⟩:=hrel;clear E;have bg:=g.few;by_cases h0:S=0
    ·have H:Eqd (Fg l) out:=⟨by rw[g.rest,h0,rK];rfl⟩
     have bv:((S:Int):Int)=0:=by omega
     clear h0;go_wp2_with fail;go_ret;rw[H.out];exact⟨ao,cap,rfl,g.row,g.bel⟩
    by_cases h8:out.length=8
    ·have H:Eqd (Fg l) out:=⟨by rw[g.rest,h8];rfl⟩
     have a8:0<(S:Int):=by omega
     have ba:8<=(out.length:Int):=by omega
     clear h0 h8;go_wp2_with fail;go_ret;rw[H.out];exact⟨ao,cap,rfl,g.row,g.bel⟩
    obtain⟨T,hT⟩:∃T,S=T+1:=⟨S-1,by omega⟩
    have a8:0<(S:Int):=by omega
    have ba:(out.length:Int)<8:=by omega
    have Q:=g.lt;have K:=G (Qt S (by omega) (by omega));rw[show(S-1)%9=T%9 by omega]at K;have Z:ZG (∀W,ZH ZI 170 #[ZB b,I J (T%9:Nat)] W fun e w'=>e=ZD (ZM #[Aq (Tx (Bg l (T%9))),ZK (Bg l (T%9)).isSome])/\ZF W.heap.size W w'):=(show _ from fun W=>HH (T%9) W (Zx5 _ (by decide)))
    obtain⟨t9,R⟩:∃t,t=T%9:=⟨_,rfl⟩
    rw[<-R]at K Z;have M:=G hT;have N:=G R;have ae:out.length<8:=by omega
    have HO:=G ae;clear hT R Q h0 h8 ae bg;go_wp2_with fail;refine(K _).mono ?_;rintro e w' ⟨rfl,rfl⟩;go_wp2_with fail;refine(Z _).mono ?_;rintro e w1 ⟨rfl,j⟩;cases q:Bg l t9 with
    |none=>
     obtain⟨n,_⟩:=Al7 w1 (I J 0) (I J 0) (I J 0) (I J 0) 147;have s:=j.trans (n.mono j.size);have H:Eqd (Fg l) out:=⟨by
      rw[g.rest,M.out,show 8-out.length=(7-out.length)+1 from by have:=HO.out;omega,rL (by rw[<-N.out];exact q)];rfl⟩
     have i:=G (Vl g.row s);have f:=G (g.bel.trans (s.mono g.bel.size));rw[show Aq (Tx O)=.agg #[I J 0,I J 0,I J 0,I J 0] from rfl,show(O:Option Ap).isSome=false from rfl];clear n j s q;go_upto_region 13 with fail;obtain⟨a1,d⟩:∃a,a=w1.heap.size:=⟨_,rfl⟩
     rw[<-d];generalize w1.alloc _=w2 at i f ⊢;clear d;go_wp2_with fail;go_ret;rw[H.out];exact⟨ao,cap,rfl,i.out,f.out⟩
    |some r=>
     obtain⟨n,y,A,C,D,_⟩:=Al7 w1 (I J r.seq) (I J r.ent) (I J r.kind) (I J r.tick) 147;have s:=j.trans (n.mono j.size);have i:=G (Vl g.row s);have f:=G (g.bel.trans (s.mono g.bel.size));rw[show Aq (Tx (U r))=.agg #[I J r.seq,I J r.ent,I J r.kind,I J r.tick] from rfl,show(U r:Option Ap).isSome=true from rfl];by_cases hs:r.seq=S
     ·have bh:((r.seq:Int) != (S:Int))=false:=by simp[hs]
      have a0:Ans (Bg l) T r:=⟨by rw[<-N.out];exact q,by rw[hs,M.out]⟩
      clear n j s q hs;go_upto_region 13 with fail;obtain⟨a1,d⟩:∃a,a=w1.heap.size:=⟨_,rfl⟩
      rw[<-d]at y A C D ⊢;generalize w1.alloc _=w2 at i f y A C D ⊢;clear d;have ac:ZG (0+1<=maxLen):=by show 0+1<=maxLen;decide
      have ai:ZG ((0+1)*32<=140737488355328):=by show(0+1)*32<=140737488355328;decide
      have ag:ZG (∀o,w.heap.size<=(w2.alloc o).heap.size):=G (fun o=>No f.size (by simp));go_upto_region 16 with(at_builtin;go_must (refine Bc rfl (.tmp 56) (.tmp 58) 68 rfl w.heap.size 147 i0 _ 4 32 underlying68 am av aw ax rfl (by decide) _ 0 [] rfl (Zzr _ _ _ _) ⟨w2.heap.size,0,O⟩ 1 1 (Ao r) rfl rfl (A1 _ (Ao r) _) (by intro u hu;simp[Ao]at hu;rcases hu with rfl|rfl|rfl|rfl<;>rfl) ac ai (ag _) ?_;intro a3 k3 w3 ap ak))
      have v:w3.ownsRow w.heap.size 147 4 (F a3 1 k3) 1 (Ao r):=ap;have P:ZF w2.heap.size w2 w3:=((R1 w2.heap.size w2).alloc (Y2 _) _).grown ak (by simp) (fun k hk=>by cases hk);have ab:=G v;have a6:=G (Ge (Vl i P));have Y:=G (f.out.trans (P.mono f.size));have ah:w.heap.size<=w3.heap.size:=Y.size;have bw:(S:Int)-1=(T:Int):=by have:=M.out;omega
      have ad:ZG (1+out.length<=maxLen):=G (by unfold maxLen;omega);have aj:ZG ((1+out.length)*32<=140737488355328):=G (by omega);clear ap v ak P ac ai ag i f y A C D;go_wp2_with (at_builtin;go_must (refine To rfl (.tmp 60) (.tmp 61) 68 rfl w.heap.size 147 i0 _ 4 32 underlying68 am av aw ax rfl (by decide) _ 1 _ rfl ab _ _ out.length _ rfl a6 (Ub out) ad aj ah ?_;intro a5 k5 w5 aq al));have az:ZG (Zz l w w5 T (r::out) a5 k5):=G (Abu g M HO a0 Y ab aq al);have bf:ZG (1+out.length=(r::out).length):=G (by simp;omega);have bc:=M.out;have bb:T<S:=by omega
      have au:wrap64 (T:Int)=(T:Int):=Zy2 _ (by have:=g.lt;omega);clear aq al bc;go_roundw;case rel=>exact⟨T,r::out,a5,k5,by rw[bf.out],by rw[au],az⟩
      case measure=>rw[au];simp[intOf];exact bb
     ·have bh:((r.seq:Int) != (S:Int))=true:=by simp;omega
      have H:Eqd (Fg l) out:=⟨by
       rw[g.rest,M.out,show 8-out.length=(7-out.length)+1 from by have:=HO.out;omega,rN (by rw[<-N.out];exact q) (by rw[<-M.out];exact hs)];rfl⟩
      clear n j s q hs;go_upto_region 13 with fail;obtain⟨a1,d⟩:∃a,a=w1.heap.size:=⟨_,rfl⟩
      rw[<-d]at y A C D ⊢;generalize w1.alloc _=w2 at i f y A C D ⊢;clear d;go_wp2_with fail;go_ret;rw[H.out];exact⟨ao,cap,rfl,i.out,f.out⟩
def Im(r:Nat)(lv:ZE)(dead:Bool):Obj:=ZC #[.pointer (U ⟨r,0,O⟩),lv,ZK dead] 144
structure Iw (w0:V) (rr r:Nat) (m:CM) (dead:Bool) (L:List Ap) (lv:ZE) (w:V):Prop where
 box:w.heap[rr]? =U (Im r lv dead)
 mem:RC w r m
 own:Ax w w0.heap.size 147 4 lv L.length (L.flatMap Ao)
 ne:rr≠r
 off:∀b,lv.ownBlock=U b->b≠rr/\b≠r
 lo:w0.heap.size<=rr/\w0.heap.size<=r
theorem RC.lt{w:V}{r:Nat}{m:CM}(h:RC w r m):r<w.heap.size:=by
 obtain⟨_,_,h⟩:=h;exact Aa h.box
section
variable {w0 w w':V} {rr r:Nat} {m m':CM} {dead dead':Bool} {L L':List Ap} {lv lv':ZE}
theorem Iw.keep{S:Nat->Prop}(h:Iw w0 rr r m dead L lv w)(k:Ac S w w')(h1:¬S rr)(h2:¬S r)(h3:∀b,lv.ownBlock=U b->¬S b):Iw w0 rr r m dead L lv w':=
 ⟨k.get h.box h1,h.mem.keep k h2,h.own.keep k h3,h.ne,h.off,h.lo⟩
theorem Iw.below(h:Iw w0 rr r m dead L lv w)(b:ZF w.heap.size w w'):Iw w0 rr r m dead L lv w':=
 h.keep (Al b) (fun h=>h) (fun h=>h) (fun _ _ h=>h)
theorem Iw.write(h:Iw w0 rr r m dead L lv w)(k:Ac (· =r) w w')(a:RC w' r m'):Iw w0 rr r m' dead L lv w':=
 ⟨k.get h.box h.ne,a,h.own.keep k (fun b d=>(h.off b d).2),h.ne,h.off,h.lo⟩
theorem Iw.set(h:Iw w0 rr r m dead L lv w)(k:Ac (· =rr) w w')(a:w'.heap[rr]? =U (Im r lv dead')):Iw w0 rr r m dead' L lv w':=
 ⟨a,h.mem.keep k (fun e=>h.ne e.symm),h.own.keep k (fun b a=>(h.off b a).1),h.ne,h.off,h.lo⟩
theorem D6(h:w.heap[rr]? =U (Im r lv dead)):w.cell? ⟨rr,0,O⟩=U (.pointer (U ⟨r,0,O⟩))/\w.cell? ⟨rr,1,O⟩=U lv/\w.cell? ⟨rr,2,O⟩=U (ZK dead)/\∀o,w.frozen? ⟨rr,o,O⟩=false:=by
 unfold Im at h;simp[World.cell?,World.frozen?,h]
end
structure V2 (rr r:Nat) (lv lv':ZE) (w w':V):Prop where
 keep:Ac (fun b=>b=rr\/b=r\/lv.ownBlock=U b\/w.heap.size<=b) w w'
 lv:lv'.ownBlock=lv.ownBlock\/Z0 w w' lv'
theorem xJ{L:List Ap}{N:Nat}(h:L.length=N+1):Gd L=L[N]:=by
 unfold Gd;rw[Zyt,show L.length-1=N by omega,R4 (by omega)];rfl
section
variable {B:Nat} {sa:Nat->Addr} {w0 w w':V} {rg c rb cap:Nat} {m m':CM} {dead dead':Bool} {L L':List Ap} {lv lv':ZE} {rr r:Nat} {m2 m2':CM} {dead2 dead2':Bool} {L2 L2':List Ap} {lv2 lv2':ZE}
