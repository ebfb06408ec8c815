import Derived.Test.YtikehilbmldadaaGreatDoorP04
import Derived.Lib.BufferWrite
import Derived.Test.YtikehilbmldadaaGreatDoorP09
import Derived.BigRegion
import Derived.Laws.Concat
set_option maxHeartbeats 4000000
set_option maxRecDepth 20000
set_option linter.unusedVariables false
namespace Go.Proofs.YtikehilbmldadaaGreatDoor
open Proofs.Tryz YtikehilbmldadaaGreatDoor.Tryz RowKit
open Go renaming World->V,RowKit.Hid->ZG,Calls->ZH,Value.int->I,IntKind.i64->J,Value.slice->F,Value.pointer->ZA,Value.string->ZB,Ending.returned->ZD,Value.bool->ZK,Value.iface->ZL,Proofs.Tryz.prog->ZI
open Option renaming some->U,none->O
section
variable {B:Nat} {sa:Nat->Addr} {w0 w w':V} {c rb:Nat} {ao:Option Addr} {cap:Nat} {m m':CM}
end
def B3(l:List ByteArray)(x:ByteArray):Bool:=l.any (fun y=>y.toList==x.toList)
def G9(l:List ByteArray)(x:ByteArray):Int:=match l.findIdx? (fun y=>y.toList==x.toList)with|some i=>(i:Int)|none=>-1
theorem Ss{l:List ByteArray}{x:ByteArray}{k:Nat}(d:k<l.length)(e:l[k].toList=x.toList)(a:∀j (hj:j<l.length),j<k->l[j].toList≠x.toList):G9 l x=k:=by
 have:l.findIdx? (fun y=>y.toList==x.toList)=U k:=by
  rw[Zzi];exact⟨d,by simp[e],fun j hj=>by have:=a j (by omega) hj;simpa using this⟩
 simp[G9,this]
theorem Wb{l:List ByteArray}{x:ByteArray}(h:∀j (hj:j<l.length),l[j].toList≠x.toList):G9 l x= -1:=by
 have:l.findIdx? (fun y=>y.toList==x.toList)=O:=by
  rw[Zze];intro y a;obtain⟨j,hj,rfl⟩:=List.mem_iff_getElem.1 a;simpa using h j hj
 simp[G9,this]
theorem Nn(l:List ByteArray)(x:ByteArray):decide (0<=G9 l x)=B3 l x:=by
 unfold G9 B3;cases h:l.findIdx? (fun y=>y.toList==x.toList)with
 |none=>
  rw[Zze]at h;have:l.any (fun y=>y.toList==x.toList)=false:=by
   rw[Zy1];intro y d;simpa using h y d
  rw[this];decide
 |some i=>
  rw[Zzi]at h;obtain⟨hi,a,_⟩:=h;have:l.any (fun y=>y.toList==x.toList)=true:=List.any_eq_true.2 ⟨l[i],M2 hi,a⟩;rw[this];simp
theorem qE(l:List ByteArray):l.flatMap (fun x=>[Value.string x])=Aj l:=by
 unfold Aj;induction l with
 |nil=>rfl
 |cons x l ih=>simp[ih]
theorem E8{R:Nat->Prop}{w:V}{ao:Option Addr}{n cap:Nat}{l:List ByteArray}(h:Av R w (F ao n cap) 1 (Aj l) l.length)(h0:0<l.length):
  ∃b off,ao=U ⟨b,off,O⟩/\R b/\b<w.heap.size/\∀k (hk:k<l.length),w.cell? ⟨b,off+k,O⟩=U (ZB l[k]):=by
 have a:Av R w (F ao n cap) 1 (l.flatMap (fun x=>[Value.string x])) l.length:=by
  rw[qE];exact h
 obtain⟨b,off,e,d,f,g⟩:=a.elem (fun _=>rfl) (by decide) h0;refine⟨b,off,e,d,f,fun k hk=>?_⟩;have:=g k hk 0 _ rfl;simpa using this
theorem Se(R:Nat->Prop)(l:List ByteArray)(v:Value)(x:ByteArray)(w:V)(h:Av R w v 1 (Aj l) l.length):
  ZH ZI 113 #[v,ZB x] w fun e w'=>e=ZD (I J (G9 l x))/\w=w':=by
 obtain⟨A,ao,cap,rfl,h1,h2,h3,u⟩:=h;have i:Av R w (F ao l.length cap) 1 (Aj l) l.length:=⟨A,_,_,rfl,h1,h2,h3,u⟩
 have E:l.length<=9223372036854775807:=by unfold maxLen at h2;omega
 have H:=G i;clear A h1 h2 h3 u i;go_enter func113,ntmps113;go_wp2_with fail;go_loop [8] (fun s=>∃k:Nat,k<=l.length/\s=I J k/\ZG (∀j (f:j<l.length),j<k->l[j].toList≠x.toList)) (fun s=>l.length-(intOf s).toNat);case atStart=>exact⟨0,In _,rfl,fun j f h=>by omega⟩
 case round=>
  obtain⟨k,D,rfl,a⟩:=hrel;by_cases g:k<l.length
  ·obtain⟨b,off,rfl,C,_,y⟩:=E8 H (by omega);have q:=y k g;clear y;by_cases n:x.toList=l[k].toList
   ·have t:(x.toList==l[k].toList)=true:=by simp[n]
    have d:=Ss g n.symm a.out;have o:=G d;clear n d;go_wp2_with fail;go_ret;exact⟨A6 o.symm,rfl⟩
   ·have t:(x.toList==l[k].toList)=false:=by simp[n]
    go_wp2_with fail;go_round;case rel=>
     refine⟨k+1,by omega,by go_num,fun j f h=>?_⟩;by_cases p:j=k
     ·subst p;exact fun h=>n h.symm
     ·exact a j f (by omega)
    case measure=>simp[intOf];omega
  ·have d:=Wb (l:=l) (x:=x) (fun j f=>a j f (by omega));have o:=G d;clear d;go_wp2_with fail;go_ret;exact⟨A6 o.symm,rfl⟩
theorem Lf(R:Nat->Prop)(l:List ByteArray)(v:Value)(x:ByteArray)(w:V)(h:Av R w v 1 (Aj l) l.length):
  ZH ZI 199 #[v,ZB x] w fun e w'=>e=ZD (ZK (B3 l x))/\w=w':=by
 obtain⟨ao,cap,rfl⟩:=h.val;have H:=G h;clear h;go_enter func199,ntmps199;go_wp2_with fail;refine(Se R l _ x _ H.out).mono ?_;rintro e w' ⟨rfl,rfl⟩;go_wp2_with fail;go_ret;exact⟨Am (Nn l x),rfl⟩
def okN(i:Nat)(c:UInt8):Bool:=decide ((97<=c.toNat/\c.toNat<=122)\/(i≠0/\((48<=c.toNat/\c.toNat<=57)\/c.toNat=45)))
def Bt(s:ByteArray):Bool:=decide (1<=s.size/\s.size<=12)&&(List.range s.size).all (fun i=>okN i (s.data.toList.getD i 0))
theorem Hz{s:ByteArray}(h:¬(1<=s.size/\s.size<=12)):Bt s=false:=by simp only[Bt,N1 h,Bool.false_and]
theorem Rt(s:ByteArray)(i:Nat)(hi:i<s.size):s.data.toList.getD i 0=s[i]:=by
 rw[Of,R4 (show i<s.data.toList.length from hi)];rfl
theorem Ho{s:ByteArray}(i:Nat)(hi:i<s.size)(h:okN i s[i]=false):Bt s=false:=by
 unfold Bt;rw[Bool.and_eq_false_iff];right;rw[List.all_eq_false];exact⟨i,List.mem_range.2 hi,by rw[Rt s i hi,h];simp⟩
theorem Ui{s:ByteArray}(h1:1<=s.size/\s.size<=12)(h:∀i (hi:i<s.size),okN i s[i]=true):Bt s=true:=by
 unfold Bt;rw[On h1,Bool.true_and,List.all_eq_true];intro i hi;have hi:=List.mem_range.1 hi;rw[Rt s i hi];exact h i hi
theorem Yx(s:ByteArray)(w:V):ZH ZI 86 #[ZB s] w fun e w'=>e=ZD (ZK (Bt s))/\w=w':=by
 by_cases h1:s.size<1
 ·have u:=G (Hz (s:=s) (by omega));go_enter func86,ntmps86;go_wp2_with fail;go_ret;exact⟨Am u.symm,rfl⟩
 by_cases h2:12<s.size
 ·have u:=G (Hz (s:=s) (by omega));go_enter func86,ntmps86;go_wp2_with fail;go_ret;exact⟨Am u.symm,rfl⟩
 go_enter func86,ntmps86;go_wp2_with fail;go_loop [3] (fun t=>∃i:Nat,i<=s.size/\t=I J i/\ZG (∀j (l:j<s.size),j<i->okN j s[j]=true)) (fun t=>s.size-(intOf t).toNat);case atStart=>exact⟨0,In _,rfl,fun j _ h=>by omega⟩
 case round=>
  obtain⟨i,hi,rfl,g⟩:=hrel;by_cases n:i<s.size
  ·by_cases h3:97<=(s[i].toNat:Int)
   ·by_cases E:(s[i].toNat:Int)<=122
    ·
     have d:=G (show okN i s[i]=true from by unfold okN;exact On (by omega));go_wp2_with fail;go_round;case rel=>exact⟨i+1,by omega,by go_num,(show ∀j (l:j<s.size),j<i+1->okN j s[j]=true from fun j l v=>by
      by_cases e:j=i
      ·subst e;exact d.out
      ·exact g j l (by omega))⟩
     case measure=>simp[intOf];omega
    ·have C:48<=(s[i].toNat:Int):=by omega
     have D:¬(s[i].toNat:Int)<=57:=by omega
     have q:((s[i].toNat:Int)==45)=false:=by simp;omega
     have a:=G (Ho i n (by unfold okN;exact N1 (by omega)));go_wp2_with fail;all_goals
      go_ret;exact⟨Am a.symm,rfl⟩
   ·by_cases C:48<=(s[i].toNat:Int)
    ·by_cases D:(s[i].toNat:Int)<=57
     ·by_cases f:i=0
      ·have p:((i:Int)==0)=true:=by simp[f]
       have o:=G f;clear f;have a:=G (Ho i n (by have:=o.out;unfold okN;exact N1 (by omega)));go_wp2_with fail;go_ret;exact⟨Am a.symm,rfl⟩
      ·have p:((i:Int)==0)=false:=by simp[f]
       have d:=G (show okN i s[i]=true from by unfold okN;exact On (by omega));go_wp2_with fail;go_round;case rel=>exact⟨i+1,by omega,by go_num,(show ∀j (l:j<s.size),j<i+1->okN j s[j]=true from fun j l v=>by
        by_cases e:j=i
        ·subst e;exact d.out
        ·exact g j l (by omega))⟩
       case measure=>simp[intOf];omega
     ·have q:((s[i].toNat:Int)==45)=false:=by simp;omega
      have a:=G (Ho i n (by unfold okN;exact N1 (by omega)));go_wp2_with fail;all_goals
       go_ret;exact⟨Am a.symm,rfl⟩
    ·by_cases q:(s[i].toNat:Int)=45
     ·have y:((s[i].toNat:Int)==45)=true:=by simp[q]
      have A:=G q;clear q;by_cases f:i=0
      ·have p:((i:Int)==0)=true:=by simp[f]
       have o:=G f;clear f;have a:=G (Ho i n (by have:=o.out;have:=A.out;unfold okN;exact N1 (by omega)));go_wp2_with fail;go_ret;exact⟨Am a.symm,rfl⟩
      ·have p:((i:Int)==0)=false:=by simp[f]
       have d:=G (show okN i s[i]=true from by have:=A.out;unfold okN;exact On (by omega));go_wp2_with fail;go_round;case rel=>exact⟨i+1,by omega,by go_num,(show ∀j (l:j<s.size),j<i+1->okN j s[j]=true from fun j l v=>by
        by_cases e:j=i
        ·subst e;exact d.out
        ·exact g j l (by omega))⟩
       case measure=>simp[intOf];omega
     ·have y:((s[i].toNat:Int)==45)=false:=by simp[q]
      have a:=G (Ho i n (by unfold okN;exact N1 (by omega)));go_wp2_with fail;all_goals
       go_ret;exact⟨Am a.symm,rfl⟩
  ·have u:=G (Ui (s:=s) (by omega) (fun j l=>g j l (by omega)));go_wp2_with fail;go_ret;exact⟨Am u.symm,rfl⟩
theorem Q5(R:Nat->Prop)(l:List Int)(v:Value)(x:Int)(w:V)(h:Av R w v 1 (Ad l) l.length):
  ZH ZI 158 #[v,I J x] w fun e w'=>e=ZD (ZK (decide (x∈l)))/\w=w':=by
 obtain⟨y,ao,cap,rfl,h1,h2,h3,t⟩:=h;have g:Av R w (F ao l.length cap) 1 (Ad l) l.length:=⟨y,_,_,rfl,h1,h2,h3,t⟩
 have D:l.length<=9223372036854775807:=by unfold maxLen at h2;omega
 have H:=G g;clear y h1 h2 h3 t g;go_enter func158,ntmps158;go_wp2_with fail;go_loop [5] (fun s=>∃k:Nat,k<=l.length/\s=I J k/\ZG (∀j (d:j<l.length),j<k->l[j]≠x)) (fun s=>l.length-(intOf s).toNat);case atStart=>exact⟨0,In _,rfl,fun j d h=>by omega⟩
 case round=>
  obtain⟨k,C,rfl,a⟩:=hrel;by_cases f:k<l.length
  ·obtain⟨b,off,rfl,A,_,u⟩:=I4 H (by omega);have q:=u k f;clear u;by_cases i:l[k]=x
   ·have p:(l[k]==x)=true:=beq_iff_eq.2 i;have n:=G (show x∈l from i▸M2 f);clear i;go_wp2_with fail;go_ret;exact⟨Am (On n.out).symm,rfl⟩
   ·have p:(l[k]==x)=false:=by simp[i]
    go_wp2_with fail;go_round;case rel=>
     refine⟨k+1,by omega,by go_num,fun j d h=>?_⟩;by_cases o:j=k
     ·subst o;exact i
     ·exact a j d (by omega)
    case measure=>simp[intOf];omega
  ·have n:=G (show x∉l from fun h=>by
    obtain⟨j,d,e⟩:=List.mem_iff_getElem.1 h;exact a j d (by omega) e)
   go_wp2_with fail;go_ret;exact⟨Am (N1 n.out).symm,rfl⟩
theorem drewN_drewN(w:V)(a b:Nat):∃c,(w.drewN a).drewN b=w.drewN c:=⟨a+b,World.drewN_drewN w a b⟩
structure Hl (B:Nat) (sa:Nat->Addr) (w:V):Prop where
 gl:∀k,k<6->w.cell? ⟨sg k,0,O⟩=U (errv sa (k+1))
 nb:∀k,k<6->sg k<B
 top:B<=w.heap.size
theorem Ii.c{B:Nat}{sa:Nat->Addr}{w:V}(h:Ii B sa w):Hl B sa w:=⟨fun k hk=>h.gl k (by omega),fun k hk=>h.nb.1 k (by omega),h.top⟩
theorem Hl.keep{B:Nat}{sa:Nat->Addr}{S:Nat->Prop}{w w':V}(h:Hl B sa w)(k:Ac S w w')(a:∀b,S b->B<=b):Hl B sa w':=by
 have d:=h.top;refine⟨fun i hi=>?_,h.nb,No d k.size⟩;have e:=h.nb i hi;rw[k.cell (p:=⟨sg i,0,O⟩) (show sg i<w.heap.size by omega) (fun x=>by have:=a _ x;simp only at this;omega)];exact h.gl i hi
theorem Hl.low{B C:Nat}{sa:Nat->Addr}{w w':V}(h:Hl B sa w)(b:Below C w w')(hC:B<=C):Hl B sa w':=h.keep (Ac.of_below b) (fun k hk=>No hC hk)
theorem Hl.on{B:Nat}{sa:Nat->Addr}{w w':V}(h:Hl B sa w)(b:Below w.heap.size w w'):Hl B sa w':=h.low b h.top
theorem Hl.all{B:Nat}{sa:Nat->Addr}{w:V}(h:Hl B sa w):
  w.cell? ⟨1,0,O⟩=U (ZL 372 (ZA (U (sa 0))))/\w.cell? ⟨0,0,O⟩=U (ZL 372 (ZA (U (sa 1))))/\w.cell? ⟨2,0,O⟩=U (ZL 372 (ZA (U (sa 2))))/\
  w.cell? ⟨3,0,O⟩=U (ZL 372 (ZA (U (sa 3))))/\w.cell? ⟨4,0,O⟩=U (ZL 372 (ZA (U (sa 4))))/\w.cell? ⟨5,0,O⟩=U (ZL 372 (ZA (U (sa 5)))):=
 ⟨h.gl 0 (by decide),h.gl 1 (by decide),h.gl 2 (by decide),h.gl 3 (by decide),h.gl 4 (by decide),h.gl 5 (by decide)⟩
section
open Go.RowKit Go.Extern.Stop Go.Stop Go.Extern
end
structure Fs (B:Nat) (sa:Nat->Addr) (w:V):Prop where
 gl:∀k,k<11->w.cell? ⟨sg k,0,O⟩=U (errv sa (k+1))
 nb:∀k,k<11->sg k<B
 top:B<=w.heap.size
theorem Ii.k{B:Nat}{sa:Nat->Addr}{w:V}(h:Ii B sa w):Fs B sa w:=⟨h.gl,h.nb.1,h.top⟩
instance {B:Nat} {sa:Nat->Addr} {w:V}:Coe (Ii B sa w) (Fs B sa w):=⟨Ii.k⟩
theorem Fs.keep{B:Nat}{sa:Nat->Addr}{S:Nat->Prop}{w w':V}(h:Fs B sa w)(k:Ac S w w')(a:∀b,S b->B<=b):Fs B sa w':=by
 have e:=h.top;refine⟨fun i hi=>?_,h.nb,No e k.size⟩;have:=h.nb i hi;rw[k.cell (p:=⟨sg i,0,O⟩) (show sg i<w.heap.size by omega) (fun d=>by have:=a _ d;simp only at this;omega)];exact h.gl i hi
theorem Fs.below{B:Nat}{sa:Nat->Addr}{w w':V}(h:Fs B sa w)(b:Below w.heap.size w w'):Fs B sa w':=h.keep (Al b) (fun _ h=>h.elim)
theorem Fs.all{B:Nat}{sa:Nat->Addr}{w:V}(h:Fs B sa w):
  w.cell? ⟨1,0,O⟩=U (ZL 372 (ZA (U (sa 0))))/\w.cell? ⟨0,0,O⟩=U (ZL 372 (ZA (U (sa 1))))/\w.cell? ⟨2,0,O⟩=U (ZL 372 (ZA (U (sa 2))))/\
  w.cell? ⟨3,0,O⟩=U (ZL 372 (ZA (U (sa 3))))/\w.cell? ⟨4,0,O⟩=U (ZL 372 (ZA (U (sa 4))))/\w.cell? ⟨5,0,O⟩=U (ZL 372 (ZA (U (sa 5))))/\
  w.cell? ⟨6,0,O⟩=U (ZL 372 (ZA (U (sa 6))))/\w.cell? ⟨7,0,O⟩=U (ZL 372 (ZA (U (sa 7))))/\w.cell? ⟨8,0,O⟩=U (ZL 372 (ZA (U (sa 8))))/\
  w.cell? ⟨9,0,O⟩=U (ZL 372 (ZA (U (sa 9))))/\w.cell? ⟨10,0,O⟩=U (ZL 372 (ZA (U (sa 10)))):=
 ⟨h.gl 0 (by decide),h.gl 1 (by decide),h.gl 2 (by decide),h.gl 3 (by decide),h.gl 4 (by decide),h.gl 5 (by decide),h.gl 6 (by decide),h.gl 7 (by decide),h.gl 8 (by decide),h.gl 9 (by decide),h.gl 10 (by decide)⟩
theorem Fs.r{B:Nat}{sa:Nat->Addr}{w:V}(h:Fs B sa w):Hk B sa w:=
 ⟨h.gl 1 (by decide),h.gl 2 (by decide),h.gl 6 (by decide),h.gl 7 (by decide),⟨h.nb 1 (by decide),h.nb 2 (by decide),h.nb 6 (by decide),h.nb 7 (by decide)⟩,h.top⟩
theorem Fs.c{B:Nat}{sa:Nat->Addr}{w:V}(h:Fs B sa w):Hl B sa w:=⟨fun k hk=>h.gl k (by omega),fun k hk=>h.nb k (by omega),h.top⟩
instance {B:Nat} {sa:Nat->Addr} {w:V}:Coe (Fs B sa w) (Hk B sa w):=⟨Fs.r⟩
def Dl(m:CM)(left:Int)(cuts:Bool):Obj:=.cells #[ZB (Aw m.bs),ZK m.off,I J left,ZK cuts,I J m.wr] 87
structure Gr (w:V) (r:Nat) (m:CM) (left:Int) (cuts:Bool):Prop where
 box:w.heap[r]? =U (Dl m left cuts)
 rel:(cuts=false/\m.cut= -1)\/(cuts=true/\m.cut=left/\0<=left)
 len:m.bs.length<=4096
theorem Hp{w:V}{r:Nat}{m:CM}{left:Int}{a:Bool}(h:Gr w r m left a):
  w.cell? ⟨r,0,O⟩=U (ZB (Aw m.bs))/\w.cell? ⟨r,1,O⟩=U (ZK m.off)/\w.cell? ⟨r,2,O⟩=U (I J left)/\w.cell? ⟨r,3,O⟩=U (ZK a)/\w.cell? ⟨r,4,O⟩=U (I J m.wr)/\∀o,w.frozen? ⟨r,o,O⟩=false:=by
 have h:=h.box;unfold Dl at h;simp[World.cell?,World.frozen?,h]
theorem Gr.keep{S:Nat->Prop}{w w':V}{r:Nat}{m:CM}{left:Int}{cuts:Bool}(h:Gr w r m left cuts)(k:Ac S w w')(hS:¬S r):Gr w' r m left cuts:=⟨k.get h.box hS,h.rel,h.len⟩
def RC(w:V)(r:Nat)(m:CM):Prop:=∃left cuts,Gr w r m left cuts
theorem K8(r:Nat)(m:CM)(left:Int)(d:Bool)(at_ n:Int)(w:V)(h:Gr w r m left d):
  ZH ZI 219 #[ZA (U ⟨r,0,O⟩),I J at_,I J n] w fun e w'=>e=ZD (I J (Fm m.off m.bs.length at_ n:Nat))/\w=w':=by
 obtain⟨c0,c1,l,o,p,q⟩:=Hp h;have f:=h.len;have j:(Aw m.bs).size=m.bs.length:=rfl;clear h;by_cases h1:at_<0
 ·rw[J7 (.inl h1)];go_enter func219,ntmps219;go_wp2_with fail;go_ret;exact⟨rfl,rfl⟩
 by_cases h2:n<0
 ·rw[J7 (.inr (.inl h2))];go_enter func219,ntmps219;go_wp2_with fail;go_ret;exact⟨rfl,rfl⟩
 by_cases h3:(m.bs.length:Int)<at_
 ·rw[J7 (.inr (.inr (.inl h3)))];go_enter func219,ntmps219;go_wp2_with fail;go_ret;exact⟨rfl,rfl⟩
 by_cases i:(m.bs.length:Int)-at_<n
 ·rw[J7 (.inr (.inr (.inr i)))];go_enter func219,ntmps219;go_wp2_with fail;go_ret;exact⟨rfl,rfl⟩
 have a:¬(at_<0\/n<0\/(m.bs.length:Int)<at_\/(m.bs.length:Int)-at_<n):=by omega
 cases g:m.off
 ·rw[g]at c1;rw[Lo a];clear a;go_enter func219,ntmps219;go_wp2_with fail;go_ret;exact⟨rfl,rfl⟩
 ·rw[g]at c1;rw[pS a];clear a;go_enter func219,ntmps219;go_wp2_with fail;go_ret;exact⟨rfl,rfl⟩
theorem wM(r:Nat)(m:CM)(left:Int)(a:Bool)(n:Int)(w:V)(h:Gr w r m left a):
  ZH ZI 65 #[ZA (U ⟨r,0,O⟩),I J n] w fun e w'=>e=ZD (I J (kD m.off n:Nat))/\RC w' r (Qn m n)/\Ac (· =r) w w':=by
 obtain⟨c0,c1,i,j,l,o⟩:=Hp h;have H:=G h;clear h;unfold kD Qn;by_cases h1:n<0
 ·rw[if_pos h1,if_pos h1];go_enter func65,ntmps65;go_wp2_with fail;go_ret;exact⟨rfl,⟨_,_,H.out⟩,Ac.refl _ _⟩
 rw[if_neg h1,if_neg h1];cases d:m.off
 ·rw[d]at c1;rw[if_neg (by decide),if_neg (by decide)];have g:((w.setCell ⟨r,3,O⟩ (ZK true)).setCell ⟨r,2,O⟩ (I J n)).heap[r]? =U (Dl ⟨m.bs,m.off,n,m.wr⟩ n true):=by
   have h:=H.box;unfold Dl at h ⊢;rw[Ah _ (Ah _ h)];rfl
  have f:ZG (Gr ((w.setCell ⟨r,3,O⟩ (ZK true)).setCell ⟨r,2,O⟩ (I J n)) r ⟨m.bs,m.off,n,m.wr⟩ n true):=(show Gr _ r ⟨m.bs,m.off,n,m.wr⟩ n true from⟨g,.inr ⟨rfl,rfl,by omega⟩,H.len⟩)
  rw[d]at f;clear g;go_enter func65,ntmps65;go_wp2_with fail;go_ret;exact⟨rfl,⟨_,_,by have:=f.out;rw[<-d]at this ⊢;exact this⟩,(Af w r 3 _).trans (Af _ r 2 _)⟩
 ·rw[d]at c1;rw[if_pos rfl,if_pos rfl];go_enter func65,ntmps65;go_wp2_with fail;go_ret;exact⟨rfl,⟨_,_,H.out⟩,Ac.refl _ _⟩
theorem Alm(r:Nat)(m:CM)(left:Int)(a:Bool)(w:V)(h:Gr w r m left a):
  ZH ZI 107 #[ZA (U ⟨r,0,O⟩)] w fun e w'=>e=ZD (.tuple #[])/\Gr w' r ⟨m.bs,false,-1,m.wr⟩ left false/\Ac (· =r) w w':=by
 obtain⟨c0,c1,g,i,j,l⟩:=Hp h;have d:((w.setCell ⟨r,1,O⟩ (ZK false)).setCell ⟨r,3,O⟩ (ZK false)).heap[r]? =U (Dl ⟨m.bs,false,-1,m.wr⟩ left false):=by
  have h:=h.box;unfold Dl at h ⊢;rw[Ah _ (Ah _ h)];rfl
 have f:=G (show Gr _ r ⟨m.bs,false,-1,m.wr⟩ left false from⟨d,.inl ⟨rfl,rfl⟩,h.len⟩);clear h d;go_enter func107,ntmps107;go_wp2_with fail;go_end0;exact⟨rfl,f.out,(Af w r 1 _).trans (Af _ r 3 _)⟩
theorem Abx(r:Nat)(m:CM)(left:Int)(a:Bool)(at_:Int)(s:ByteArray)(k:Nat)(w:V)(h:Gr w r m left a)(j:Fm m.off m.bs.length at_ s.size=k+1):
  ZH ZI 220 #[ZA (U ⟨r,0,O⟩),I J at_,ZB s] w fun e w'=>e=ZD (I J (k+1:Nat))/\w=w':=by
 have H:=G h;clear h;go_enter func220,ntmps220;go_wp2_with fail;refine(K8 r m left a at_ s.size w H.out).mono ?_;rintro e w' ⟨rfl,rfl⟩;rw[j];have f:(0:Int)<((k+1:Nat):Int):=by omega
 obtain⟨i,d⟩:∃i:Int,i=((k+1:Nat):Int):=⟨_,rfl⟩
 rw[<-d]at f ⊢;have g:=G d;clear d;go_wp2_with fail;go_ret;exact⟨A6 g.out,rfl⟩
theorem Aa7(bs:List UInt8)(a K:Nat)(s:ByteArray)(e:K<=s.size)(f:a+K<=bs.length):(Aw bs).extract 0 a++s.extract 0 K++(Aw bs).extract (a+K) (Aw bs).size=Aw (Dy bs a s.data.toList K):=by
 apply Zx4;apply Array.ext';have d:(Aw bs).size=bs.length:=rfl;rw[d];simp only[Aw,Dy,Zzy,Zyj,Zzq,Zye];simp[Zy0]
theorem rX{w:V}{r:Nat}{m:CM}{a K:Nat}{s:ByteArray}{l:List UInt8}{g f:Bool}{d i:Int}(o:Bj m.cut s.size=K)(p:l=Dy m.bs a s.data.toList K)(q:g=decide (K<s.size))(n:i=m.wr+K)
  (hrel:(f=false/\Eg m.cut K= -1)\/(f=true/\Eg m.cut K=d/\0<=d)) (j:l.length<=4096) (h:w.heap[r]? =U (Dl ⟨l,g,0,i⟩ d f)):RC w r (Be m a s.data.toList):=by
 have e:Be m a s.data.toList=⟨l,g,Eg m.cut K,i⟩:=by
  subst o;subst p;subst q;subst n;rfl
 rw[e];exact⟨d,f,h,hrel,j⟩
theorem Wh(r:Nat)(m:CM)(left:Int)(A:Bool)(a:Nat)(s:ByteArray)(w:V)(h:Gr w r m left A)(Z:m.off=false)(hn:a+s.size<=m.bs.length)
  (M:A=true->left<=9223372036854775807) (ax:0<=m.wr) (ay:m.wr<=1000000000):
  ZH ZI 220 #[ZA (U ⟨r,0,O⟩),I J a,ZB s] w fun e w'=>e=ZD (I J (Bb m.cut s.size:Nat))/\RC w' r (Be m a s.data.toList)/\Ac (· =r) w w':=by
 have H:=G h;have hl:=h.len;have hk:Fm m.off m.bs.length a s.size=0:=by rw[Z];exact Lo (by omega)
 obtain⟨c0,c1,c2,c3,c4,cf⟩:=Hp h;rw[Z]at c1;have hrel:=h.rel;have N:(Aw m.bs).size=m.bs.length:=rfl;have u:ZG (s.data.toList.length=s.size):=(rfl:s.data.toList.length=s.size)
 have f:=h.box;clear h;rcases hrel with⟨rfl,hcut⟩|⟨rfl,hcut,av⟩
 ·clear M;have l:ZG (Bj m.cut s.size=s.size):=G (by simp[Bj,hcut]);have p:ZG (Eg m.cut s.size= -1):=G (by simp[Eg,hcut]);have j:=Aa7 m.bs a s.size s (by omega) (by omega);simp only[ByteArray.extract_zero_size,N]at j;have d:(Dy m.bs a s.data.toList s.size).length<=4096:=by rw[Ei m.bs a s.data.toList s.size (by rw[u.out];omega) (by omega)];exact hl
  obtain⟨g,i⟩:∃bb,bb=Dy m.bs a s.data.toList s.size:=⟨_,rfl⟩
  rw[<-i]at j d;have t:=G i;clear i;have hw:=Zz0 ((a:Int)+s.size) (by omega);have Q:=Zz0 (m.wr+(s.size:Int)) (by omega);have b1:(a:Int)<=((Aw m.bs).size:Int):=by omega
  have b2:(s.size:Int)<=(s.size:Int):=by omega
  have b3:(a:Int)+s.size<=((Aw m.bs).size:Int):=by omega
  have b4:((a:Int)+s.size).toNat=a+s.size:=by omega
  have C:ZG ((w.setCell ⟨r,0,O⟩ (ZB (Aw g))).drew.heap[r]? =U (Dl ⟨g,false,0,m.wr⟩ left false)):=(show(w.setCell ⟨r,0,O⟩ (ZB (Aw g))).heap[r]? =U (Dl ⟨g,false,0,m.wr⟩ left false)from by
   unfold Dl at f ⊢;rw[Ah _ f];rw[Z];rfl)
  have D:ZG (Ac (· =r) w (w.setCell ⟨r,0,O⟩ (ZB (Aw g))).drew):=G ((Af w r 0 (ZB (Aw g))).drew);go_enter func220,ntmps220;go_wp2_with fail;refine(K8 r m left false a s.size w H.out).mono ?_;rintro e w' ⟨rfl,rfl⟩;rw[hk];rw[show(((0:Nat):Int))=0 from rfl];go_upto_region 8 with fail;go_region;generalize World.drew _=w8 at C D ⊢;have q:=C.out;unfold Dl at q;have R:w8.cell? ⟨r,1,O⟩=U (ZK false):=by simp[World.cell?,q]
  have S:w8.cell? ⟨r,2,O⟩=U (I J left):=by simp[World.cell?,q]
  have T:w8.cell? ⟨r,3,O⟩=U (ZK false):=by simp[World.cell?,q]
  have X:w8.cell? ⟨r,4,O⟩=U (I J m.wr):=by simp[World.cell?,q]
  have Y:∀o,w8.frozen? ⟨r,o,O⟩=false:=by simp[World.frozen?,q]
  have y:ZG ((w8.setCell ⟨r,4,O⟩ (I J (m.wr+(s.size:Int)))).heap[r]? =U (Dl ⟨g,false,0,m.wr+(s.size:Int)⟩ left false)):=G (by
   rw[Ah _ q];rfl)
  have E:=G (D.trans (Af w8 r 4 (I J (m.wr+(s.size:Int)))));clear q j c0 c1 c2 c3 c4 cf f;go_upto_region 10 with fail;generalize World.setCell _ _ _=w9 at y E ⊢;have q:=y.out;unfold Dl at q;have y1:w9.cell? ⟨r,1,O⟩=U (ZK false):=by simp[World.cell?,q]
  have y2:w9.cell? ⟨r,2,O⟩=U (I J left):=by simp[World.cell?,q]
  have y3:w9.cell? ⟨r,3,O⟩=U (ZK false):=by simp[World.cell?,q]
  have yf:∀o,w9.frozen? ⟨r,o,O⟩=false:=by simp[World.frozen?,q]
  clear R S T X Y;go_wp2_with fail;go_ret;exact⟨A6 (by rw[show Bb (-1) s.size=0 by simp[Bb,Bj]];rfl),rX l t (by simp) rfl (.inl ⟨rfl,p.out⟩) d y.out,E.out⟩
 ·have M:=M rfl;by_cases aw:left<(s.size:Int)
  ·obtain⟨L,rfl⟩:∃L:Nat,left=L:=⟨left.toNat,by omega⟩
   have P:L<s.size:=by omega
   have ab:=G P;have l:ZG (Bj m.cut s.size=L):=G (by simp only[Bj,hcut,show ¬(L:Int)= -1 by omega,if_false];omega);have p:ZG (Eg m.cut L=0):=G (by simp only[Eg,hcut,show ¬(L:Int)= -1 by omega,if_false];omega);have K:ZG ((0:Int)<=0):=G (by decide);have EV:ZG (Bb m.cut s.size=8):=G (by rw[Bb,l.out,if_pos P]);clear hcut;have j:=Aa7 m.bs a L s (by omega) (by omega);rw[N]at j;have d:(Dy m.bs a s.data.toList L).length<=4096:=by rw[Ei m.bs a s.data.toList L (by rw[u.out];omega) (by omega)];exact hl
   obtain⟨g,i⟩:∃bb,bb=Dy m.bs a s.data.toList L:=⟨_,rfl⟩
   rw[<-i]at j d;have t:=G i;clear i;have hw:=Zz0 ((a:Int)+L) (by omega);have Q:=Zz0 (m.wr+(L:Int)) (by omega);have b1:(a:Int)<=((Aw m.bs).size:Int):=by omega
   have b2:(L:Int)<=(s.size:Int):=by omega
   have b3:(a:Int)+L<=((Aw m.bs).size:Int):=by omega
   have b4:((a:Int)+L).toNat=a+L:=by omega
   have C:ZG (((w.setCell ⟨r,1,O⟩ (ZK true)).setCell ⟨r,0,O⟩ (ZB (Aw g))).drew.heap[r]? =U (Dl ⟨g,true,0,m.wr⟩ (L:Int) true)):=(show((w.setCell ⟨r,1,O⟩ (ZK true)).setCell ⟨r,0,O⟩ (ZB (Aw g))).heap[r]? =U (Dl ⟨g,true,0,m.wr⟩ (L:Int) true)from by
    unfold Dl at f ⊢;rw[Ah _ (Ah _ f)];rfl)
   have D:ZG (Ac (· =r) w ((w.setCell ⟨r,1,O⟩ (ZK true)).setCell ⟨r,0,O⟩ (ZB (Aw g))).drew):=G (((Af w r 1 (ZK true)).trans (Af _ r 0 (ZB (Aw g)))).drew);go_enter func220,ntmps220;go_wp2_with fail;refine(K8 r m (L:Int) true a s.size w H.out).mono ?_;rintro e w' ⟨rfl,rfl⟩;rw[hk];rw[show(((0:Nat):Int))=0 from rfl];go_upto_region 8 with fail;go_region;generalize World.drew _=w8 at C D ⊢;have q:=C.out;unfold Dl at q;have R:w8.cell? ⟨r,1,O⟩=U (ZK true):=by simp[World.cell?,q]
   have S:w8.cell? ⟨r,2,O⟩=U (I J (L:Int)):=by simp[World.cell?,q]
   have T:w8.cell? ⟨r,3,O⟩=U (ZK true):=by simp[World.cell?,q]
   have X:w8.cell? ⟨r,4,O⟩=U (I J m.wr):=by simp[World.cell?,q]
   have Y:∀o,w8.frozen? ⟨r,o,O⟩=false:=by simp[World.frozen?,q]
   have y:ZG ((w8.setCell ⟨r,4,O⟩ (I J (m.wr+(L:Int)))).heap[r]? =U (Dl ⟨g,true,0,m.wr+(L:Int)⟩ (L:Int) true)):=G (by
    rw[Ah _ q];rfl)
   have E:=G (D.trans (Af w8 r 4 (I J (m.wr+(L:Int)))));clear q j c0 c1 c2 c3 c4 cf f;go_upto_region 10 with fail;generalize World.setCell _ _ _=w9 at y E ⊢;have q:=y.out;unfold Dl at q;have y1:w9.cell? ⟨r,1,O⟩=U (ZK true):=by simp[World.cell?,q]
   have y2:w9.cell? ⟨r,2,O⟩=U (I J (L:Int)):=by simp[World.cell?,q]
   have y3:w9.cell? ⟨r,3,O⟩=U (ZK true):=by simp[World.cell?,q]
   have yf:∀o,w9.frozen? ⟨r,o,O⟩=false:=by simp[World.frozen?,q]
   clear R S T X Y;have n:ZG ((w9.setCell ⟨r,2,O⟩ (I J (0))).heap[r]? =U (Dl ⟨g,true,0,m.wr+(L:Int)⟩ (0) true)):=G (by
    rw[Ah _ q];rfl)
   have v:=G (E.trans (Af w9 r 2 (I J (0))));have ai:=G (rfl:(0:Nat)=0);clear q;go_upto_region 12 with fail;generalize World.setCell _ _ _=w10 at n v ⊢;have q:=n.out;unfold Dl at q;have z1:w10.cell? ⟨r,1,O⟩=U (ZK true):=by simp[World.cell?,q]
   clear q;go_wp2_with fail;go_ret;exact⟨A6 (by rw[EV.out];rfl),rX l t (On ab.out).symm rfl (.inr ⟨rfl,p.out,K.out⟩) d n.out,v.out⟩
  ·have l:ZG (Bj m.cut s.size=s.size):=G (by simp only[Bj,hcut,show ¬left= -1 by omega,if_false];omega);have p:ZG (Eg m.cut s.size=left-(s.size:Int)):=G (by simp only[Eg,hcut,show ¬left= -1 by omega,if_false]);have K:ZG ((0:Int)<=left-(s.size:Int)):=G (by omega);have EV:ZG (Bb m.cut s.size=0):=G (by rw[Bb,l.out,if_neg (Nat.lt_irrefl _)]);clear hcut;have j:=Aa7 m.bs a s.size s (by omega) (by omega);simp only[ByteArray.extract_zero_size,N]at j;have d:(Dy m.bs a s.data.toList s.size).length<=4096:=by rw[Ei m.bs a s.data.toList s.size (by rw[u.out];omega) (by omega)];exact hl
   obtain⟨g,i⟩:∃bb,bb=Dy m.bs a s.data.toList s.size:=⟨_,rfl⟩
   rw[<-i]at j d;have t:=G i;clear i;have hw:=Zz0 ((a:Int)+s.size) (by omega);have Q:=Zz0 (m.wr+(s.size:Int)) (by omega);have b1:(a:Int)<=((Aw m.bs).size:Int):=by omega
   have b2:(s.size:Int)<=(s.size:Int):=by omega
   have b3:(a:Int)+s.size<=((Aw m.bs).size:Int):=by omega
   have b4:((a:Int)+s.size).toNat=a+s.size:=by omega
   have C:ZG ((w.setCell ⟨r,0,O⟩ (ZB (Aw g))).drew.heap[r]? =U (Dl ⟨g,false,0,m.wr⟩ left true)):=(show(w.setCell ⟨r,0,O⟩ (ZB (Aw g))).heap[r]? =U (Dl ⟨g,false,0,m.wr⟩ left true)from by
    unfold Dl at f ⊢;rw[Ah _ f];rw[Z];rfl)
   have D:ZG (Ac (· =r) w (w.setCell ⟨r,0,O⟩ (ZB (Aw g))).drew):=G ((Af w r 0 (ZB (Aw g))).drew);go_enter func220,ntmps220;go_wp2_with fail;refine(K8 r m left true a s.size w H.out).mono ?_;rintro e w' ⟨rfl,rfl⟩;rw[hk];rw[show(((0:Nat):Int))=0 from rfl];go_upto_region 8 with fail;go_region;generalize World.drew _=w8 at C D ⊢;have q:=C.out;unfold Dl at q;have R:w8.cell? ⟨r,1,O⟩=U (ZK false):=by simp[World.cell?,q]
   have S:w8.cell? ⟨r,2,O⟩=U (I J left):=by simp[World.cell?,q]
   have T:w8.cell? ⟨r,3,O⟩=U (ZK true):=by simp[World.cell?,q]
   have X:w8.cell? ⟨r,4,O⟩=U (I J m.wr):=by simp[World.cell?,q]
   have Y:∀o,w8.frozen? ⟨r,o,O⟩=false:=by simp[World.frozen?,q]
   have y:ZG ((w8.setCell ⟨r,4,O⟩ (I J (m.wr+(s.size:Int)))).heap[r]? =U (Dl ⟨g,false,0,m.wr+(s.size:Int)⟩ left true)):=G (by
    rw[Ah _ q];rfl)
   have E:=G (D.trans (Af w8 r 4 (I J (m.wr+(s.size:Int)))));clear q j c0 c1 c2 c3 c4 cf f;go_upto_region 10 with fail;generalize World.setCell _ _ _=w9 at y E ⊢;have q:=y.out;unfold Dl at q;have y1:w9.cell? ⟨r,1,O⟩=U (ZK false):=by simp[World.cell?,q]
   have y2:w9.cell? ⟨r,2,O⟩=U (I J left):=by simp[World.cell?,q]
   have y3:w9.cell? ⟨r,3,O⟩=U (ZK true):=by simp[World.cell?,q]
   have yf:∀o,w9.frozen? ⟨r,o,O⟩=false:=by simp[World.frozen?,q]
   clear R S T X Y;have n:ZG ((w9.setCell ⟨r,2,O⟩ (I J (left-(s.size:Int)))).heap[r]? =U (Dl ⟨g,false,0,m.wr+(s.size:Int)⟩ (left-(s.size:Int)) true)):=G (by
    rw[Ah _ q];rfl)
   have v:=G (E.trans (Af w9 r 2 (I J (left-(s.size:Int)))));have ai:=Zz0 (left-(s.size:Int)) (by omega);clear q;go_upto_region 12 with fail;generalize World.setCell _ _ _=w10 at n v ⊢;have q:=n.out;unfold Dl at q;have z1:w10.cell? ⟨r,1,O⟩=U (ZK false):=by simp[World.cell?,q]
   clear q;go_wp2_with fail;go_ret;exact⟨A6 (by rw[EV.out];rfl),rX l t (by simp) rfl (.inr ⟨rfl,p.out,K.out⟩) d n.out,v.out⟩
theorem RC.keep{S:Nat->Prop}{w w':V}{r:Nat}{m:CM}(h:RC w r m)(k:Ac S w w')(a:¬S r):RC w' r m:=by
 obtain⟨l,c,h⟩:=h;exact⟨l,c,h.keep k a⟩
def Ak1(m:CM)(at_:Int)(s:ByteArray):CM:=if Fm m.off m.bs.length at_ s.size=0 then Be m at_.toNat s.data.toList else m
def Ak2(m:CM)(at_:Int)(s:ByteArray):Nat:=if Fm m.off m.bs.length at_ s.size=0 then Bb m.cut s.size else Fm m.off m.bs.length at_ s.size
theorem Aca{off:Bool}{len:Nat}{a n:Int}(h:Fm off len a n=0):off=false/\0<=a/\0<=n/\a+n<=len:=by
 unfold Fm at h;split at h
 ·cases h
 ·rename_i hc;cases off
  ·exact⟨rfl,by omega,by omega,by omega⟩
  ·simp at h
theorem Aij(r:Nat)(m:CM)(at_:Int)(s:ByteArray)(w:V)(h:RC w r m)(k:Int)(g:J3 m k)(q:k<=1000000000):
  ZH ZI 220 #[ZA (U ⟨r,0,O⟩),I J at_,ZB s] w fun e w'=>e=ZD (I J (Ak2 m at_ s:Nat))/\RC w' r (Ak1 m at_ s)/\Ac (· =r) w w':=by
 unfold Ak2 Ak1;obtain⟨left,f,h⟩:=h;by_cases d:Fm m.off m.bs.length at_ s.size=0
 ·rw[if_pos d,if_pos d];obtain⟨o,h0,h1,h2⟩:=Aca d;obtain⟨a,rfl⟩:∃a:Nat,at_=a:=⟨at_.toNat,by omega⟩
  have p:=g.w1;rcases h.rel with⟨rfl,hcut⟩|⟨rfl,hcut,t⟩
  ·refine(Wh r m left false a s w h o (by omega) (fun h=>by cases h) g.w0 (by omega)).mono ?_;rintro e w' ⟨rfl,i,l⟩;exact⟨rfl,by simpa using i,l⟩
  ·refine(Wh r m left true a s w h o (by omega) (fun _=>by rw[<-hcut];exact g.c1) g.w0 (by omega)).mono ?_;rintro e w' ⟨rfl,i,l⟩;exact⟨rfl,by simpa using i,l⟩
 ·rw[if_neg d,if_neg d];obtain⟨j,n⟩:∃j,Fm m.off m.bs.length at_ s.size=j+1:=⟨_,(Nat.succ_pred_eq_of_pos (Nat.pos_of_ne_zero d)).symm⟩
  rw[n];refine(Abx r m left f at_ s j w h n).mono ?_;rintro e w' ⟨rfl,rfl⟩;exact⟨rfl,⟨_,_,h⟩,Ac.refl _ _⟩
