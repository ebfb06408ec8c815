import Derived.Test.YtikehilbmldadaaGreatDoorV19
import Derived.Lib.Join
import Derived.Test.YtikehilbmldadaaGreatDoorV36
set_option linter.unusedVariables false
open Go.Proofs.Tryz Go.Proofs.YtikehilbmldadaaGreatDoor.Tryz
namespace Go.Proofs.YtikehilbmldadaaGreatDoor
section
open Go.RowKit
def Ej(s:ByteArray):Option Nat:=
 match Lib.atoiAll s.data.toList with
 |.ok v=>if s.size<=5/\0<=v/\Lib.itoa v=s.data.toList then some v.toNat else none
 |_=>none
def Dx:List (ByteArray × Nat):=[(⟨#[98,101,103,105,110]⟩,1),(⟨#[115,116,111,112]⟩,1),(⟨#[114,101,112,111,114,116]⟩,2),(⟨#[116,105,99,107]⟩,1),(⟨#[99,117,116]⟩,1),(⟨#[98,111,111,116]⟩,0),(⟨#[115,116,97,116,117,115]⟩,1),
 (⟨#[110,111,119]⟩,0),(⟨#[107,105,99,107,115]⟩,0),(⟨#[116,111,116,97,108]⟩,0),(⟨#[115,116,97,116,101]⟩,0),(⟨#[99,97,117,115,101]⟩,0),(⟨#[108,111,103]⟩,0),(⟨#[99,111,110,102,105,103]⟩,0)]
def Cp(s:ByteArray):Option Nat:=Dx.findIdx? (fun p=>p.1.data.toList==s.data.toList)
def Gm(i:Nat):Nat:=(Dx.getD i (ByteArray.empty,0)).2
def D7(i:Nat):Nat->List ByteArray->Option (List Nat)
 |_,[]=>some []
 |j,s::r=>match Ej s with
  |none=>none
  |some k=>if j=0/\i≠3/\i≠4/\9<k then none else match D7 i (j+1) r with
   |none=>none
   |some l=>some (k::l)
def okS:ByteArray:=⟨#[111,107]⟩
def Em:ByteArray:=⟨#[110,111,116,104,105,110,103]⟩
def Fd(r:Ar):List UInt8:=Lib.join [Lib.itoa r.seq,Lib.itoa r.ent,Lib.itoa r.kind,Lib.itoa r.tick] [32]
def Up(L:List Ar):ByteArray:=if L= [] then Em else Fc (Lib.join (L.map Fd) [44,32])
def Qr(l:List UInt8):List UInt8:=Lib.trimSuffix l [10]
def P8(l:List UInt8):List UInt8:=l.flatMap (fun c=>if c=10 then [59,32] else [c])
def Lo(txt:ByteArray):ByteArray:=Fc (P8 (Qr txt.data.toList))
def Es(txt:ByteArray)(M:KpM)(i:Nat)(ns:List Nat):Nat × ByteArray × KpM:=
 let n:Int:=ns.getD 0 0
 match i with
 |0=>((Kd M n).1,okS,(Kd M n).2)
 |1=>((Nd M n).1,okS,(Nd M n).2)
 |2=>((Ix M n (ns.getD 1 0)).1,okS,(Ix M n (ns.getD 1 0)).2)
 |3=>((Bz M (ns.getD 0 0)).1,okS,(Bz M (ns.getD 0 0)).2)
 |4=>(Abx M.m.off n,okS,{ M with m:=Rw M.m n})
 |5=>((Ov M).1,okS,(Ov M).2)
 |6=>if n<M.A.length then (0,Cr (Cq M n.toNat),M) else (5,ByteArray.empty,M)
 |7=>(0,Fc (Lib.itoa M.D.now),M)
 |8=>(0,Fc (Lib.itoa M.D.kicks),M)
 |9=>(0,M.st.str,M)
 |10=>(0,Pv M,M)
 |11=>(0,if M.L= [] then Em else Fc (Fd (Gz M.L)),M)
 |12=>(0,Up M.L,M)
 |_=>(0,Lo txt,M)
def Hf(line:ByteArray):Option (Nat × List Nat):=match Bj 32 line with
 |[]=>none
 |w::r=>match Cp w with
  |none=>none
  |some i=>if r.length≠Gm i then none else match D7 i 0 r with
   |none=>none
   |some ns=>some (i,ns)
def Dg(txt:ByteArray)(M:KpM)(line:ByteArray):Nat × ByteArray × KpM:=match Hf line with
 |none=>(1,ByteArray.empty,M)
 |some (i,ns)=>Es txt M i ns
def Qs(line:ByteArray):Nat:=match Hf line with
 |some (3,n::_)=>n
 |_=>0
def Ib(e:Nat):ByteArray:=(⟨#[110,105,103,104,116,119,97,116,99,104,58,32]⟩:ByteArray)++([⟨#[]⟩,⟨#[116,101,120,116]⟩,⟨#[98,111,117,110,100]⟩,⟨#[115,104,97,112,101]⟩,⟨#[110,97,109,101]⟩,⟨#[110,111,110,101]⟩,⟨#[101,120,105,115,116]⟩,⟨#[102,117,108,108]⟩,⟨#[111,102,102]⟩,⟨#[105,100,108,101]⟩,⟨#[104,101,108,100]⟩,⟨#[114,101,115,101,116]⟩]:List ByteArray).getD e ⟨#[]⟩
def Da(txt:ByteArray)(M:KpM)(line:ByteArray):ByteArray × KpM:=(if (Dg txt M line).1=0 then (Dg txt M line).2.1 else Ib (Dg txt M line).1,(Dg txt M line).2.2)
def Dw(txt:ByteArray):KpM->List ByteArray->List ByteArray × KpM
 |M,[]=>([],M)
 |M,s::r=>((Da txt M s).1::(Dw txt (Da txt M s).2 r).1,(Dw txt (Da txt M s).2 r).2)
theorem Xk(txt:ByteArray):∀(l:List ByteArray) (M:KpM),(Dw txt M l).1.length=l.length
 |[],_=>rfl
 |s::r,M=>by simp[Dw,Xk txt r]
theorem Um(txt:ByteArray)(s:ByteArray):∀(l:List ByteArray) (M:KpM),Dw txt M (l++ [s])=((Dw txt M l).1++ [(Da txt (Dw txt M l).2 s).1],(Da txt (Dw txt M l).2 s).2)
 |[],M=>rfl
 |a::r,M=>by simp[Dw,Um txt s r]
theorem kM{txt:ByteArray}{M:KpM}{line w:ByteArray}{r:List ByteArray}(h:Bj 32 line=w::r)(hw:Cp w=none):Da txt M line=(Ib 1,M):=by
 unfold Da Dg Hf
 rw[h];simp only[hw]
 rfl
theorem Aft{txt:ByteArray}{M:KpM}{T i:Nat}{ns:List Nat}(h:B8 M T)(ht:T+2*(if i=3 then ns.getD 0 0 else 0)<=400000)(hn:(ns.getD 0 0:Nat)<=9223372036854775807):B8 (Es txt M i ns).2.2 (T+2*(if i=3 then ns.getD 0 0 else 0)):=by
 unfold Es
 split<;>simp only[Nat.reduceEqDiff,if_true,if_false,Nat.mul_zero,Nat.add_zero]at ht ⊢
 ·exact vB h _
 ·exact Aat h _
 ·exact pL h _ _
 ·exact Nc h _ ht
 ·exact Ad7 h (by omega)
 ·exact Aa3 h
 ·split<;>exact h
 ·exact h
 ·exact h
 ·exact h
 ·exact h
 ·exact h
 ·exact h
 ·exact h.up (by omega) ht
end
section
section
variable {P:Program} {ops:Array Oper} {Q:Exit->Act->World->Prop} {md:Region.Mode} {S:World->Prop}
theorem Be{i:Nat}{d:Option Tmp}{op:Op}{t:TypeId}{p:String}{af:Array Edge}{g:Option (Nat × Bool)}{v:Value}{fuel:Nat}{listed:Array Bool}{a:Act}{w:World}(hi:ops[i]? =some { dst:=d,op:=op,type:=t,pos:=p,after:=af,guard:=g})
  (hs:Region.noSelect ops=true) (hf:Region.free md ops listed i=true) (hr:(Region.ready md ops listed).contains i=true)
  (hQ:∀c a w,Q (.panic c) (a.put d v) w->Q (.panic c) a w) (hy:YieldsIf P ops S { dst:=d,op:=op,type:=t,pos:=p,after:=af,guard:=g} v a) (hS:S w)
  (h:wpAnyH P md ops Q S fuel (listed.setIfInBounds i true) (a.put d v) w):wpAnyH P md ops Q S (fuel+1) listed a w:=
 wpAnyH_take hi hs hf hr hQ hy hS h
end
end
section
open Go.RowKit
end
end Go.Proofs.YtikehilbmldadaaGreatDoor
