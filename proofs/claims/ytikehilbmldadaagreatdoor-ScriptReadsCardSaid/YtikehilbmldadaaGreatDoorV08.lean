import Derived.Test.YtikehilbmldadaaGreatDoorV02
import Derived.Maps.OwnOps
import Derived.Maps.OwnSet
import Derived.MapKept
import Derived.Carry
import Derived.Deep.DeepCutAuto
set_option maxHeartbeats 2000000
set_option maxRecDepth 100000
set_option linter.unusedVariables false
open Go.Proofs.Tryz Go.Proofs.YtikehilbmldadaaGreatDoor.Tryz
namespace Go.Proofs.YtikehilbmldadaaGreatDoor
section
open Go.RowKit
def Gd(p:Int × Int):Value:=.agg #[.int .i64 p.1,.int .i64 p.2]
theorem Wk(p:Int × Int):Instr.sameBits 10000 (Gd p) (Gd p)=true:=by
 have:∀n,Instr.sameBits (n+2) (Gd p) (Gd p)=true:=by intro n;simp[Gd,Instr.sameBits]
 exact this 9998
section
variable {P:Program}
theorem G6(w:World){e:TypeId}{k:IntKind}(he:P.underlying e=some (.int k))(cs:Array Value)(i:Nat)(v:Value)(hv:cs[i]? =some v):(part e cs i).run P w=.ok v w:=by
 unfold part
 simp[isAgg,run_underlying he,hv]
structure Ki (P:Program) (m t e b:TypeId):Prop where
 um:P.underlying m=some (.map t b)
 ut:P.underlying t=some (.array 2 e)
 ue:P.underlying e=some (.int .i64)
 us:∃i,P.info? e=some i/\i.size=1
 uz:∀w:World,(zeroValue b).run P w=.ok (.bool false) w
variable {m t e b:TypeId} (M:Ki P m t e b)
include M
theorem Ki.equal(w:World)(p q:Int × Int):(Op.equal t (Gd p) (Gd q)).run P w=.ok (decide (p=q)) w:=by
 obtain⟨i,hi,hs⟩:=M.us
 have key:∀d,(Op.equalIn (d+2) t (Gd p) (Gd q)).run P w=.ok (decide (p=q)) w:=by
  intro d
  unfold Gd
  rw[Op.equalIn]
  have p0:=fun(a b:Int) (w:World)=>G6 (P:=P) w M.ue #[.int .i64 a,.int .i64 b] 0 _ rfl
  have p1:=fun(a b:Int) (w:World)=>G6 (P:=P) w M.ue #[.int .i64 a,.int .i64 b] 1 _ rfl
  have e1:=fun(a b:Int) (w:World)=>run_equalIn_int (P:=P) w d e .i64 .i64 a b M.ue
  simp[run_underlying M.ut,sizeOf,typeInfo,hi,hs,Std.Legacy.Range.forIn_eq_forIn_range',Std.Legacy.Range.size,List.range',p0,p1,e1]
  by_cases h1:p.1=q.1
  ·by_cases h2:p.2=q.2
   ·rw[if_pos h1,if_pos h2,decide_eq_true (Prod.ext h1 h2)]
   ·rw[if_pos h1,if_neg h2,decide_eq_false (fun h=>h2 (by rw[h]))]
  ·rw[if_neg h1,decide_eq_false (fun h=>h1 (by rw[h]))]
 exact key 9998
theorem Ki.check(w:World)(em:Bool)(p:Int × Int):(Instr.checkKey em 10000 t (Gd p)).run P w=.ok () w:=by
 obtain⟨i,hi,hs⟩:=M.us
 have key:∀d,(Instr.checkKey em (d+2) t (Gd p)).run P w=.ok () w:=by
  intro d
  unfold Gd
  rw[Instr.checkKey]
  have p0:=fun(a b:Int) (w:World)=>G6 (P:=P) w M.ue #[.int .i64 a,.int .i64 b] 0 _ rfl
  have p1:=fun(a b:Int) (w:World)=>G6 (P:=P) w M.ue #[.int .i64 a,.int .i64 b] 1 _ rfl
  have e1:∀(a:Int) (w:World),(Instr.checkKey em (d+1) e (.int .i64 a)).run P w=.ok () w:=by
   intro a w
   rw[Instr.checkKey]
   simp[run_underlying M.ue]
  simp[run_underlying M.ut,sizeOf,typeInfo,hi,hs,Std.Legacy.Range.forIn_eq_forIn_range',Std.Legacy.Range.size,List.range',p0,p1,e1]
 exact key 9998
def Pf(es:List MapEntry)(K:List (Int × Int)):Prop:=es.map (fun x=>(x.key,x.val))=K.map (fun p=>(Gd p,Value.bool true))
theorem Ki.find(w:World)(p:Int × Int):∀(es:List MapEntry) (K:List (Int × Int)) (i:Nat),Pf es K->
  ∃r,(Instr.findAsking t (Gd p) es i).run P w=.ok r w/\((r=none/\p∉K)\/∃j,r=some (i+j,.bool true)/\K[j]? =some p)
 |[],K,i,h=>by
  have hK:K= []:=by simpa [Pf] using h
  subst hK
  exact⟨none,by simp[Instr.findAsking],.inl ⟨rfl,by simp⟩⟩
 |x::es,[],i,h=>by simp[Pf]at h
 |x::es,q::K,i,h=>by
  simp only[Pf,List.map_cons,List.cons.injEq,Prod.mk.injEq]at h
  obtain⟨⟨hk,hv⟩,hr⟩:=h
  have he:=M.equal w p q
  by_cases hpq:p=q
  ·refine⟨some (i,.bool true),?_,.inr ⟨0,by simp,by simp[hpq]⟩⟩
   rw[Instr.findAsking]
   simp[hk,hpq,hv,M.equal]
  ·obtain⟨r,h1,h2⟩:=Ki.find w p es K (i+1) hr
   refine⟨r,?_,?_⟩
   ·rw[Instr.findAsking]
    simp[hk,he,hpq,h1]
   ·rcases h2 with⟨rfl,hn⟩|⟨j,rfl,hj⟩
    ·exact .inl ⟨rfl,by simp[hpq,hn]⟩
    ·exact .inr ⟨j+1,by rw[show i+1+j=i+(j+1)from by omega],by simpa using hj⟩
theorem Ki.findKey(w:World)(p:Int × Int)(es:List MapEntry)(K:List (Int × Int))(h:Pf es K):
  ∃r,(Instr.findKey t (Gd p) es).run P w=.ok r w/\((r=none/\p∉K)\/∃j,r=some (j,.bool true)/\K[j]? =some p):=by
 have hw:(match P.underlying t with|some (.array _ _)|some (.struct _)=>true|_=>false)=true:=by rw[M.ut]
 rw[run_findKey_eq w hw]
 obtain⟨r,h1,h2⟩:=M.find w p es K 0 h
 refine⟨r,h1,?_⟩
 rcases h2 with h2|⟨j,hj,hk⟩
 ·exact .inl h2
 ·exact .inr ⟨j,by rw[hj,Nat.zero_add],hk⟩
def Hv(w:World)(r:Nat)(K:List (Int × Int)):Prop:=∃es clock,w.heap[r]? =some (.map es clock)/\Pf es.toList K
theorem Ki.lookup(w:World)(r:Nat)(K:List (Int × Int))(p:Int × Int)(h:Hv w r K):(Instr.lookup m (.map (some r)) (Gd p) false).run P w=.ok (.bool (decide (p∈K))) w:=by
 obtain⟨es,clock,hb,he⟩:=h
 obtain⟨x,h1,h2⟩:=M.findKey w p es.toList K he
 have hg:=MapKept.run_getObj_map (P:=P) hb
 have hc:=M.check w es.isEmpty p
 unfold Instr.lookup
 rcases h2 with⟨rfl,hn⟩|⟨j,rfl,hj⟩
 ·simp[run_underlying M.um,hg,hc,h1,M.uz,hn]
 ·have:p∈K:=List.mem_of_getElem? hj
  simp[run_underlying M.um,hg,hc,h1,this]
theorem Ki.update(w:World)(r:Nat)(K:List (Int × Int))(p:Int × Int)(h:Hv w r K):
  ∃w',(Instr.mapUpdate m (.map (some r)) (Gd p) (.bool true)).run P w=.ok () w'/\(∃K',Hv w' r K'/\∀q,q∈K'↔q=p\/q∈K)/\Ae (· =r) w w':=by
 obtain⟨es,clock,hb,he⟩:=h
 obtain⟨x,h1,h2⟩:=M.findKey w p es.toList K he
 have hg:=MapKept.run_getObj_map (P:=P) hb
 have hc:=M.check w false p
 have hs:=fun o=>MapKept.run_setObj_map (P:=P) o hb
 have kp:∀o:Obj,Ae (· =r) w { w with heap:=w.heap.setIfInBounds r o}:=fun o=>⟨rfl,rfl,rfl,by simp,fun k hk hne=>by
  simp only[Array.getElem?_setIfInBounds];rw[if_neg (fun h=>hne h.symm)]⟩
 have hr:=Aa hb
 have nw:∀o:Obj,({ w with heap:=w.heap.setIfInBounds r o}:World).heap[r]? =some o:=fun o=>by
  simp only[Array.getElem?_setIfInBounds];simp[hr]
 have hlen:es.toList.length=K.length:=by have:=congrArg List.length he;simpa using this
 unfold Instr.mapUpdate
 rcases h2 with⟨rfl,hn⟩|⟨j,rfl,hj⟩
 ·refine⟨_,by simp[run_underlying M.um,hg,hc,h1,hs];rfl,⟨K++ [p],⟨_,_,nw _,?_⟩,fun q=>by simp;exact or_comm⟩,kp _⟩
  unfold Pf at he ⊢
  simp[he]
 ·have hjl:j<es.toList.length:=by rw[hlen];exact(List.getElem?_eq_some_iff.1 hj).1
  have hkey:((es[j]?).map (·.key)).getD (Gd p)=Gd p:=by
   have h3:=congrArg (fun l=>l[j]?) he
   simp only[List.getElem?_map,hj]at h3
   rw[List.getElem?_eq_getElem hjl]at h3
   simp at h3
   have:es[j]? =some es[j]:=Array.getElem?_eq_getElem (by simpa using hjl)
   rw[this]
   simp[h3.1]
  have kst:(Instr.keyThatStays (Gd p) (Gd p)).run P w=.ok (Gd p) w:=by
   unfold Instr.keyThatStays
   rw[if_pos (Wk p)]
   simp
  have hpK:p∈K:=List.mem_of_getElem? hj
  refine⟨_,by simp only[run_underlying M.um,hg,hc,h1,hs,hkey,kst,Sem.run_bind,Result.andThen_ok];rfl,⟨K,⟨_,_,nw _,?_⟩,fun q=>⟨fun h=>.inr h,fun h=>h.elim (fun e=>e▸hpK) id⟩⟩,kp _⟩
  unfold Pf at he ⊢
  rw[<-he]
  apply List.ext_getElem?
  intro i
  simp only[List.getElem?_map,Array.toList_modify,List.getElem?_modify]
  by_cases hij:j=i
  ·subst hij
   have h3:=congrArg (fun l=>l[j]?) he
   simp only[List.getElem?_map,hj]at h3
   rw[List.getElem?_eq_getElem hjl]at h3 ⊢
   simp at h3 ⊢
   exact⟨h3.1.symm,h3.2.symm⟩
  ·simp only[if_neg hij]
   cases es.toList[i]? <;>rfl
omit M
theorem Hv.keep{S:Nat->Prop}{w w':World}{r:Nat}{K:List (Int × Int)}(h:Hv w r K)(hk:Ae S w w')(hS:¬S r):Hv w' r K:=by
 obtain⟨es,clock,hb,he⟩:=h
 exact⟨es,clock,hk.get hb hS,he⟩
end
end
section
open Go.RowKit
def Ll(cnt:Int)(pl:Nat):Int:=if cnt<0\/(pl:Int)<=cnt then -1 else cnt
def G4(p mn mx c:Int):Obj:=.cells #[.int .i64 p,.int .i64 mn,.int .i64 mx,.int .i64 c] 246
theorem xC(nm g ed f l:Value)(t cnt mn mx:Int)(a:Option Addr)(pl pc:Nat)(w:World):
  Calls Tryz.prog 89 #[.agg #[nm,.int .i64 t,.slice a pl pc,.int .i64 cnt,.int .i64 mn,.int .i64 mx,g,ed,f,l]] w fun e w'=>
   e=.returned (.pointer (some ⟨w.heap.size+1,0,none⟩))/\
   (w.alloc (.cells #[nm,.int .i64 t,.slice a pl pc,.int .i64 cnt,.int .i64 mn,.int .i64 mx,g,ed,f,l] 50)).alloc (G4 (Ll cnt pl) mn mx 0)=w':=by
 go_enter func89,ntmps89
 go_wp2
 all_goals go_ret
 ·rename_i h1 h2;exact⟨rfl,by simp[G4,Ll,h2]⟩
 ·rename_i h1 h2;exact⟨rfl,by rw[Ll,if_neg (by omega)];rfl⟩
 ·rename_i h1;exact⟨rfl,by simp[G4,Ll,h1]⟩
theorem gK(nm g ed f l:Value)(t cnt mn mx:Int)(a:Option Addr)(pl pc:Nat)(w:World):
  Calls Tryz.prog 89 #[.agg #[nm,.int .i64 t,.slice a pl pc,.int .i64 cnt,.int .i64 mn,.int .i64 mx,g,ed,f,l]] w fun e w'=>
   ∃b,e=.returned (.pointer (some ⟨b,0,none⟩))/\w.heap.size<=b/\w'.heap[b]? =some (G4 (Ll cnt pl) mn mx 0)/\Below w.heap.size w w':=by
 refine(xC nm g ed f l t cnt mn mx a pl pc w).mono ?_
 rintro e w' ⟨rfl,rfl⟩
 refine⟨_,rfl,by omega,?_,((Below.refl _ _).alloc (Nat.le_refl _) _).alloc (by simp) _⟩
 have:=Ab (w.alloc (.cells #[nm,.int .i64 t,.slice a pl pc,.int .i64 cnt,.int .i64 mn,.int .i64 mx,g,ed,f,l] 50)) (G4 (Ll cnt pl) mn mx 0)
 simpa using this
theorem Tr{w:World}{b:Nat}{p mn mx c:Int}(h:w.heap[b]? =some (G4 p mn mx c)):
  w.cell? ⟨b,0,none⟩=some (.int .i64 p)/\w.cell? ⟨b,1,none⟩=some (.int .i64 mn)/\w.cell? ⟨b,2,none⟩=some (.int .i64 mx)/\w.cell? ⟨b,3,none⟩=some (.int .i64 c)/\w.frozen? ⟨b,3,none⟩=false:=by
 unfold G4 at h
 simp[World.cell?,World.frozen?,h]
theorem T2(b:Nat)(p c:Int)(w:World)(h0:w.cell? ⟨b,0,none⟩=some (.int .i64 p))(h3:w.cell? ⟨b,3,none⟩=some (.int .i64 c))(hf:w.frozen? ⟨b,3,none⟩=false)(hp:0<=p)(hc:0<=c)(hc':c<=1000):
  Calls Tryz.prog 92 #[.pointer (some ⟨b,0,none⟩),.int .i64 p] w fun e w'=>
   e=.returned (.tuple #[])/\w.setCell ⟨b,3,none⟩ (.int .i64 (min 1000 (c+1)))=w':=by
 go_enter func92,ntmps92
 go_wp2
 ·go_end0
  refine⟨rfl,?_⟩
  rw[show min (1000:Int) (c+1)=c+1 from by omega]
 ·go_end0
  refine⟨rfl,?_⟩
  rw[show min (1000:Int) (c+1)=1000 from by omega]
theorem Sy(b:Nat)(p q:Int)(w:World)(h0:w.cell? ⟨b,0,none⟩=some (.int .i64 p))(hp:p<0\/(q==p)=false):
  Calls Tryz.prog 92 #[.pointer (some ⟨b,0,none⟩),.int .i64 q] w fun e w'=>
   e=.returned (.tuple #[])/\w=w':=by
 by_cases hn:p<0
 ·clear hp
  go_enter func92,ntmps92
  go_wp2
  all_goals go_end0
  all_goals exact⟨rfl,rfl⟩
 ·have hq:=hp.resolve_left hn
  clear hp
  go_enter func92,ntmps92
  go_wp2
  all_goals go_end0
  all_goals exact⟨rfl,rfl⟩
def Jj(p c q:Int):Int:=if 0<=p/\q=p then min 1000 (c+1) else c
theorem T3(b:Nat)(p mn mx c q:Int)(w:World)(h:w.heap[b]? =some (G4 p mn mx c))(hc:0<=c)(hc':c<=1000):
  Calls Tryz.prog 92 #[.pointer (some ⟨b,0,none⟩),.int .i64 q] w fun e w'=>
   e=.returned (.tuple #[])/\w'.heap[b]? =some (G4 p mn mx (Jj p c q))/\Ae (· =b) w w':=by
 obtain⟨h0,h1,h2,h3,hf⟩:=Tr h
 by_cases hp:0<=p/\q=p
 ·obtain⟨hp1,rfl⟩:=hp
  refine(T2 b q c w h0 h3 hf hp1 hc hc').mono ?_
  rintro e w' ⟨rfl,rfl⟩
  refine⟨rfl,?_,Ai _ _ _ _⟩
  rw[Am _ h]
  simp[G4,Jj,hp1]
 ·refine(Sy b p q w h0 ?_).mono ?_
  ·by_cases hn:p<0
   ·exact .inl hn
   ·exact .inr (by simp;omega)
  ·rintro e w' ⟨rfl,rfl⟩
   exact⟨rfl,by rw[Jj,if_neg hp];exact h,Ae.refl _ _⟩
def G9(p mn mx c:Int)(whole:Bool):Bool:=decide (p<0)|| !whole||(decide (mn<=c)&&decide (c<=mx))
theorem xD(b:Nat)(p mn mx c:Int)(wh:Bool)(w:World)(h0:w.cell? ⟨b,0,none⟩=some (.int .i64 p))(h1:w.cell? ⟨b,1,none⟩=some (.int .i64 mn))(h2:w.cell? ⟨b,2,none⟩=some (.int .i64 mx))
  (h3:w.cell? ⟨b,3,none⟩=some (.int .i64 c)) (hf:w.frozen? ⟨b,3,none⟩=false):
  Calls Tryz.prog 236 #[.pointer (some ⟨b,0,none⟩),.bool wh] w fun e w'=>e=.returned (.bool (G9 p mn mx c wh))/\w.setCell ⟨b,3,none⟩ (.int .i64 0)=w':=by
 cases wh
 ·go_enter func236,ntmps236
  go_wp2
  all_goals go_ret
  all_goals exact⟨by simp[G9, *]<;>omega,rfl⟩
 ·by_cases hp:p<0
  ·go_enter func236,ntmps236
   go_wp2
   all_goals go_ret
   all_goals exact⟨by simp[G9, *]<;>omega,rfl⟩
  ·by_cases hm:mn<=c
   ·go_enter func236,ntmps236
    go_wp2
    all_goals go_ret
    all_goals exact⟨by simp[G9, *]<;>omega,rfl⟩
   ·go_enter func236,ntmps236
    go_wp2
    all_goals go_ret
    all_goals exact⟨by simp[G9, *]<;>omega,rfl⟩
theorem gL(b:Nat)(p mn mx c:Int)(wh:Bool)(w:World)(h:w.heap[b]? =some (G4 p mn mx c)):
  Calls Tryz.prog 236 #[.pointer (some ⟨b,0,none⟩),.bool wh] w fun e w'=>e=.returned (.bool (G9 p mn mx c wh))/\w'.heap[b]? =some (G4 p mn mx 0)/\Ae (· =b) w w':=by
 obtain⟨h0,h1,h2,h3,hf⟩:=Tr h
 refine(xD b p mn mx c wh w h0 h1 h2 h3 hf).mono ?_
 rintro e w' ⟨rfl,rfl⟩
 exact⟨rfl,by rw[Am _ h];simp[G4],Ai _ _ _ _⟩
end
section
open Go.RowKit
def Qa(L:List (ByteArray × Value)):List MapEntry:=L.zipIdx.map (fun x=>⟨.string x.1.1,x.1.2,x.2⟩)
def Hj(L:List (ByteArray × Value)):Obj:=.map (Qa L).toArray L.length
def N0(L:List (ByteArray × Value))(s:ByteArray):Option Value:=(L.find? (fun p=>p.1.data.toList==s.data.toList)).map (·.2)
theorem Yf(L:List (ByteArray × Value)):∀x∈Qa L,MapKept.IsKey .string x.key:=by
 intro x hx
 obtain⟨p,hp,rfl⟩:=List.mem_map.1 hx
 trivial
theorem Vy(L:List (ByteArray × Value))(j:Nat):(Qa L)[j]? =L[j]?.map (fun p=>(⟨.string p.1,p.2,j⟩:MapEntry)):=by
 simp only[Qa,List.getElem?_map,List.getElem?_zipIdx,Option.map_map]
 cases L[j]? <;>simp
theorem Abs(L:List (ByteArray × Value))(k:ByteArray)(v:Value):Qa (L++ [(k,v)])=Qa L++ [⟨.string k,v,L.length⟩]:=by
 simp[Qa,List.zipIdx_append]
theorem Pb{a b:ByteArray}:(a.data.toList==b.data.toList)=true↔a=b:=by
 rw[beq_iff_eq]
 constructor
 ·intro h
  cases a;cases b
  exact congrArg ByteArray.mk (Array.toList_inj.1 h)
 ·rintro rfl;rfl
section
variable {P:Program} {m t b:TypeId} (um:P.underlying m=some (.map t b)) (ut:P.underlying t=some .string)
include um ut
theorem pC(W:World)(B:Nat)(L:List (ByteArray × Value))(h:W.heap[B]? =some (Hj L))(k:ByteArray)(v:Value)(hk:∀x∈L,x.1≠k):
  (Instr.mapUpdate m (.map (some B)) (.string k) v).run P W=.ok () { W with heap:=W.heap.setIfInBounds B (Hj (L++ [(k,v)]))}:=by
 have hg:=MapKept.run_getObj_map (P:=P) h
 have hs:=fun o=>MapKept.run_setObj_map (P:=P) o h
 have hc:=MapKept.run_checkKey (P:=P) (w:=W) ut (k:=.string k) trivial false 9999
 have hf:Instr.findNow .string (.string k) (Qa L) 0=some none:=by
  rcases MapKept.findNow_spec (d:=.string) (k:=.string k) trivial (Qa L) 0 (Yf _)with⟨h,_⟩|⟨j,e,h1,h2,h3⟩
  ·exact h
  ·exfalso
   rw[Vy]at h2
   obtain⟨q,hq,rfl⟩:=Option.map_eq_some_iff.1 h2
   exact hk q (List.mem_of_getElem? hq) (Value.string.inj h3)
 have hfk:=MapKept.run_findKey (P:=P) (w:=W) (l:=(Qa L).toArray.toList) ut (by simpa using hf)
 unfold Instr.mapUpdate
 simp only[run_underlying um,hg,hc,hfk,hs,Sem.run_bind,Result.andThen_ok]
 congr 3
 unfold Hj
 rw[Abs]
 simp
theorem X1{z:Value}(hz:∀w:World,(zeroValue b).run P w=.ok z w)(W:World)(B:Nat)(L:List (ByteArray × Value))(h:W.heap[B]? =some (Hj L))(hd:(L.map (·.1)).Nodup)(s:ByteArray):
  (Instr.lookup m (.map (some B)) (.string s) true).run P W=.ok (.tuple #[(N0 L s).getD z,.bool (N0 L s).isSome]) W:=by
 have hg:=MapKept.run_getObj_map (P:=P) h
 have hc:=fun e=>MapKept.run_checkKey (P:=P) (w:=W) ut (k:=.string s) trivial e 9999
 have hcase:(Instr.findNow .string (.string s) (Qa L) 0=some none/\N0 L s=none)\/∃j v,Instr.findNow .string (.string s) (Qa L) 0=some (some (j,v))/\N0 L s=some v:=by
  rcases MapKept.findNow_spec (d:=.string) (k:=.string s) trivial (Qa L) 0 (Yf _)with⟨h1,h2⟩|⟨j,e,h1,h2,h3⟩
  ·refine .inl ⟨h1,?_⟩
   unfold N0
   rw[Option.map_eq_none_iff,List.find?_eq_none]
   intro q hq
   obtain⟨i,hi,rfl⟩:=List.mem_iff_getElem.1 hq
   have hm:(⟨.string L[i].1,L[i].2,i⟩:MapEntry)∈Qa L:=List.mem_of_getElem? (i:=i) (by rw[Vy,List.getElem?_eq_getElem hi];rfl)
   have hne:=h2 _ hm
   intro hh
   exact hne (congrArg Value.string (Pb.1 hh))
  ·rw[Vy]at h2
   obtain⟨q,hq,rfl⟩:=Option.map_eq_some_iff.1 h2
   refine .inr ⟨0+j,q.2,h1,?_⟩
   have hs:q.1=s:=Value.string.inj h3
   obtain⟨hj,hjq⟩:=List.getElem?_eq_some_iff.1 hq
   unfold N0
   cases hf:L.find? (fun p=>p.1.data.toList==s.data.toList)with
   |none=>
    rw[List.find?_eq_none]at hf
    exact absurd (Pb.2 hs) (hf q (List.mem_of_getElem? hq))
   |some r=>
    have hr:=List.find?_some hf
    obtain⟨i,hi,hir⟩:=List.mem_iff_getElem.1 (List.mem_of_find?_eq_some hf)
    have e1:r.1=q.1:=by rw[hs];exact Pb.1 hr
    have hd':=List.pairwise_iff_getElem.1 hd
    have e2:i=j:=by
     rcases Nat.lt_trichotomy i j with hh|hh|hh
     ·exact(hd' i j (by simpa using hi) (by simpa using hj) hh (by simp[hir,hjq,e1])).elim
     ·exact hh
     ·exact(hd' j i (by simpa using hj) (by simpa using hi) hh (by simp[hir,hjq,e1])).elim
    subst e2
    rw[hir]at hjq
    rw[hjq];rfl
 unfold Instr.lookup
 rcases hcase with⟨h1,h2⟩|⟨j,q,h1,h2⟩
 ·have hfk:=MapKept.run_findKey (P:=P) (w:=W) (l:=(Qa L).toArray.toList) ut (by simpa using h1)
  simp[run_underlying um,hg,hc,hfk,hz,Sem.run_bind,Result.andThen_ok,h2]
 ·have hfk:=MapKept.run_findKey (P:=P) (w:=W) (l:=(Qa L).toArray.toList) ut (by simpa using h1)
  simp[run_underlying um,hg,hc,hfk,Sem.run_bind,Result.andThen_ok,h2]
theorem I9(W:World)(B:Nat)(L:List (ByteArray × Value))(h:W.heap[B]? =some (Hj L))(k:ByteArray)(v:Value)(hk:∀x∈L,x.1≠k):
  ∃W',(Instr.mapUpdate m (.map (some B)) (.string k) v).run P W=.ok () W'/\W'.heap[B]? =some (Hj (L++ [(k,v)]))/\Ae (· =B) W W':=by
 have hlt:=Aa h
 refine⟨_,pC um ut W B L h k v hk,?_,⟨rfl,rfl,rfl,?_,fun i hi hs=>?_⟩⟩
 ·simp[hlt]
 ·simp
 ·simp only[Array.getElem?_setIfInBounds]
  rw[if_neg (fun e=>hs e.symm)]
omit um ut in
theorem rZ(W:World)(x y:Obj):({ W.alloc x with heap:=(W.alloc x).heap.setIfInBounds W.heap.size y}:World)=W.alloc y:=by
 have e:∀z:Obj,(W.alloc z)= { W with heap:=W.heap.push z}:=fun _=>rfl
 rw[e,e]
 show({ heap:=(W.heap.push x).setIfInBounds W.heap.size y,tape:=W.tape,drawn:=W.drawn,os:=W.os,output:=W.output}:World)= { heap:=W.heap.push y,tape:=W.tape,drawn:=W.drawn,os:=W.os,output:=W.output}
 congr 1
 apply Array.ext_getElem?
 intro i
 simp only[Array.getElem?_setIfInBounds,Array.getElem?_push,Array.size_push]
 by_cases h:W.heap.size=i
 ·subst h;simp
 ·rw[if_neg h,if_neg (fun hh=>h hh.symm),if_neg (fun hh=>h hh.symm)]
theorem Ja(W:World)(L:List (ByteArray × Value))(k:ByteArray)(v:Value)(hk:∀x∈L,x.1≠k):
  (Instr.mapUpdate m (.map (some W.heap.size)) (.string k) v).run P (W.alloc (Hj L))=.ok () (W.alloc (Hj (L++ [(k,v)]))):=by
 rw[pC um ut (W.alloc (Hj L)) W.heap.size L (Ab _ _) k v hk,rZ]
end
end
section
open Go.RowKit
def Dj:List (ByteArray × Nat × ByteArray):=[(⟨#[119,105,110,100,111,119]⟩,0,⟨#[110,110]⟩),(⟨#[99,121,99,108,101]⟩,1,⟨#[110]⟩),(⟨#[100,101,108,97,121]⟩,2,⟨#[110]⟩),(⟨#[101,110,116,105,116,121]⟩,3,⟨#[115,110]⟩),
 (⟨#[112,111,105,110,116]⟩,4,⟨#[115]⟩),(⟨#[99,111,117,110,116]⟩,5,⟨#[112,110,110]⟩),(⟨#[103,97,112]⟩,6,⟨#[112,112,110,110]⟩),(⟨#[101,100,103,101]⟩,7,⟨#[112,112]⟩),(⟨#[102,105,114,115,116]⟩,8,⟨#[112]⟩),(⟨#[108,97,115,116]⟩,9,⟨#[112]⟩)]
def Qk(p:Nat × ByteArray):Value:=.agg #[.int .i64 p.1,.string p.2]
def Gb(s:ByteArray):Option (Nat × ByteArray):=(Dj.find? (fun p=>p.1.data.toList==s.data.toList)).map (·.2)
def Bp(s:ByteArray):Nat:=((Gb s).map (·.1)).getD 0
def Ba(s:ByteArray):ByteArray:=((Gb s).map (·.2)).getD ByteArray.empty
def Dr(s:ByteArray):Bool:=(Gb s).isSome
def Jw(L:List (ByteArray × Nat × ByteArray)):List MapEntry:=(L.zipIdx).map (fun x=>⟨.string x.1.1,Qk x.1.2,x.2⟩)
def Gp(W:World)(k:Nat):World:=W.alloc (.map (Jw (Dj.take k)).toArray k)
theorem X0(W:World)(k:Nat):(Gp W k).heap[W.heap.size]? =some (.map (Jw (Dj.take k)).toArray k):=Ab _ _
theorem Vz(L:List (ByteArray × Nat × ByteArray)):∀x∈Jw L,MapKept.IsKey .string x.key:=by
 intro x hx
 obtain⟨p,hp,rfl⟩:=List.mem_map.1 hx
 trivial
theorem yT(W:World)(o o':Obj):({ W.alloc o with heap:=(W.alloc o).heap.setIfInBounds W.heap.size o'}:World)=W.alloc o':=by
 have e:∀o:Obj,(W.alloc o)= { W with heap:=W.heap.push o}:=fun _=>rfl
 rw[e,e]
 show({ heap:=(W.heap.push o).setIfInBounds W.heap.size o',tape:=W.tape,drawn:=W.drawn,os:=W.os,output:=W.output}:World)= { heap:=W.heap.push o',tape:=W.tape,drawn:=W.drawn,os:=W.os,output:=W.output}
 congr 1
 apply Array.ext_getElem?
 intro i
 simp only[Array.getElem?_setIfInBounds,Array.getElem?_push,Array.size_push]
 by_cases h:W.heap.size=i
 ·subst h;simp
 ·rw[if_neg h,if_neg (fun hh=>h hh.symm),if_neg (fun hh=>h hh.symm)]
section
variable {P:Program} {m t b:TypeId} (um:P.underlying m=some (.map t b)) (ut:P.underlying t=some .string)
include um ut
theorem Hn(W:World)(k:Nat)(hk:k<10)(p:ByteArray × Nat × ByteArray)(hp:Dj[k]? =some p):
  (Instr.mapUpdate m (.map (some W.heap.size)) (.string p.1) (Qk p.2)).run P (Gp W k)=.ok () (Gp W (k+1)):=by
 have hb:=X0 W k
 have hg:=MapKept.run_getObj_map (P:=P) hb
 have hs:=fun o=>MapKept.run_setObj_map (P:=P) o hb
 have hc:=MapKept.run_checkKey (P:=P) (w:=Gp W k) ut (k:=.string p.1) trivial false 9999
 have hf:Instr.findNow .string (.string p.1) (Jw (Dj.take k)) 0=some none:=by
  rcases MapKept.findNow_spec (d:=.string) (k:=.string p.1) trivial (Jw (Dj.take k)) 0 (Vz _)with⟨h,_⟩|⟨j,e,h1,h2,h3⟩
  ·exact h
  ·exfalso
   have hn:∀k:Fin 10,∀j:Fin 10,j.1<k.1->(Dj.getD j.1 (ByteArray.empty,0,ByteArray.empty)).1.data.toList≠(Dj.getD k.1 (ByteArray.empty,0,ByteArray.empty)).1.data.toList:=by decide
   have hj:j<k/\e.key=.string (Dj.getD j (ByteArray.empty,0,ByteArray.empty)).1:=by
    simp only[Jw,List.getElem?_map,List.getElem?_zipIdx,List.getElem?_take,Option.map_map]at h2
    by_cases hjk:j<k
    ·rw[if_pos hjk]at h2
     obtain⟨q,hq,rfl⟩:=Option.map_eq_some_iff.1 h2
     exact⟨hjk,by rw[List.getD_eq_getElem?_getD,hq];rfl⟩
    ·rw[if_neg hjk]at h2
     cases h2
   have:=hn ⟨k,hk⟩ ⟨j,by omega⟩ hj.1
   rw[hj.2]at h3
   apply this
   rw[Value.string.inj h3,List.getD_eq_getElem?_getD,hp]
   rfl
 have hfk:=MapKept.run_findKey (P:=P) (w:=Gp W k) (l:=(Jw (Dj.take k)).toArray.toList) ut (by simpa using hf)
 unfold Instr.mapUpdate
 simp only[run_underlying um,hg,hc,hfk,hs,Sem.run_bind,Result.andThen_ok]
 rw[show(Gp W k)=W.alloc (.map (Jw (Dj.take k)).toArray k)from rfl,yT]
 show _=Result.ok () (W.alloc (.map (Jw (Dj.take (k+1))).toArray (k+1)))
 congr 3
 rw[List.take_add_one,hp]
 simp[Jw,List.zipIdx_append]
 rw[show Dj.length=10 from rfl]
 omega
theorem Abk(hz:∀w:World,(zeroValue b).run P w=.ok (Qk (0,ByteArray.empty)) w)(W:World)(s:ByteArray):
  (Instr.lookup m (.map (some W.heap.size)) (.string s) true).run P (Gp W 10)=.ok (.tuple #[Qk (Bp s,Ba s),.bool (Dr s)]) (Gp W 10):=by
 have hb:=X0 W 10
 have hg:=MapKept.run_getObj_map (P:=P) hb
 have hc:=fun e=>MapKept.run_checkKey (P:=P) (w:=Gp W 10) ut (k:=.string s) trivial e 9999
 have h10:Dj.take 10=Dj:=rfl
 rw[h10]at hg
 have hcase:(Instr.findNow .string (.string s) (Jw Dj) 0=some none/\Gb s=none)\/∃j q,Instr.findNow .string (.string s) (Jw Dj) 0=some (some (j,Qk q))/\Gb s=some q:=by
  rcases MapKept.findNow_spec (d:=.string) (k:=.string s) trivial (Jw Dj) 0 (Vz _)with⟨h1,h2⟩|⟨j,e,h1,h2,h3⟩
  ·refine .inl ⟨h1,?_⟩
   unfold Gb
   rw[Option.map_eq_none_iff,List.find?_eq_none]
   intro q hq
   obtain⟨i,hi,rfl⟩:=List.mem_iff_getElem.1 hq
   have hm:(⟨.string Dj[i].1,Qk Dj[i].2,i⟩:MapEntry)∈Jw Dj:=List.mem_map.2 ⟨(Dj[i],i),by rw[List.mem_zipIdx_iff_getElem?];exact List.getElem?_eq_getElem hi,rfl⟩
   have hne:=h2 _ hm
   intro hh
   apply hne
   have:=eq_of_beq hh
   show Value.string Dj[i].1=_
   congr 1
   cases hx:Dj[i].1;cases s
   rw[hx]at this
   exact congrArg ByteArray.mk (Array.toList_inj.1 this)
  ·simp only[Jw,List.getElem?_map,List.getElem?_zipIdx,Option.map_map]at h2
   obtain⟨q,hq,rfl⟩:=Option.map_eq_some_iff.1 h2
   refine .inr ⟨0+j,q.2,h1,?_⟩
   have hs:q.1=s:=Value.string.inj h3
   have hall:∀j:Fin 10,Gb (Dj.getD j.1 (ByteArray.empty,0,ByteArray.empty)).1=some (Dj.getD j.1 (ByteArray.empty,0,ByteArray.empty)).2:=by decide
   have hj:j<10:=(List.getElem?_eq_some_iff.1 hq).1
   have:=hall ⟨j,hj⟩
   rw[List.getD_eq_getElem?_getD,hq]at this
   rw[<-hs]
   exact this
 unfold Instr.lookup
 rcases hcase with⟨h1,h2⟩|⟨j,q,h1,h2⟩
 ·have hfk:=MapKept.run_findKey (P:=P) (w:=Gp W 10) (l:=(Jw Dj).toArray.toList) ut (by simpa using h1)
  simp[run_underlying um,hg,hc,hfk,hz,Sem.run_bind,Result.andThen_ok,Bp,Ba,Dr,h2]
 ·have hfk:=MapKept.run_findKey (P:=P) (w:=Gp W 10) (l:=(Jw Dj).toArray.toList) ut (by simpa using h1)
  simp[run_underlying um,hg,hc,hfk,Sem.run_bind,Result.andThen_ok,Bp,Ba,Dr,h2]
end
end
section
open Go.RowKit
def Bi(st:Int)(k:Nat):Bool:=
 if k<=2 then st==(k:Int)-1 else if k=3 then decide (2<=st) else if k=5 then (st==3||st==4) else decide (3<=st)&&decide (st<=(k:Int))
theorem sW(st:Int)(rb:Nat)(w:World)(h:w.cell? ⟨rb,5,none⟩=some (.int .i64 st)):Calls Tryz.prog 111 #[.pointer (some ⟨rb,0,none⟩),.int .i64 0] w fun e w'=>e=.returned (.bool (Bi st 0))/\w=w':=by
 have HT:=Aia (show Bi st 0=(st== -1)from rfl)
 obtain⟨z,hz⟩:∃z,(st== -1)=z:=⟨_,rfl⟩
 rw[hz]at HT
 go_enter func111,ntmps111
 go_wp2_with fail
 go_ret
 exact⟨Ah HT.out.symm,rfl⟩
theorem sV(st:Int)(rb:Nat)(w:World)(h:w.cell? ⟨rb,5,none⟩=some (.int .i64 st)):Calls Tryz.prog 111 #[.pointer (some ⟨rb,0,none⟩),.int .i64 1] w fun e w'=>e=.returned (.bool (Bi st 1))/\w=w':=by
 have HT:=Aia (show Bi st 1=(st==0)from rfl)
 obtain⟨z,hz⟩:∃z,(st==0)=z:=⟨_,rfl⟩
 rw[hz]at HT
 go_enter func111,ntmps111
 go_wp2_with fail
 go_ret
 exact⟨Ah HT.out.symm,rfl⟩
theorem sU(st:Int)(rb:Nat)(w:World)(h:w.cell? ⟨rb,5,none⟩=some (.int .i64 st)):Calls Tryz.prog 111 #[.pointer (some ⟨rb,0,none⟩),.int .i64 2] w fun e w'=>e=.returned (.bool (Bi st 2))/\w=w':=by
 have HT:=Aia (show Bi st 2=(st==1)from rfl)
 obtain⟨z,hz⟩:∃z,(st==1)=z:=⟨_,rfl⟩
 rw[hz]at HT
 go_enter func111,ntmps111
 go_wp2_with fail
 go_ret
 exact⟨Ah HT.out.symm,rfl⟩
theorem sT(st:Int)(rb:Nat)(w:World)(h:w.cell? ⟨rb,5,none⟩=some (.int .i64 st)):Calls Tryz.prog 111 #[.pointer (some ⟨rb,0,none⟩),.int .i64 3] w fun e w'=>e=.returned (.bool (Bi st 3))/\w=w':=by
 have HT:=Aia (show Bi st 3=decide (2<=st)from rfl)
 go_enter func111,ntmps111
 go_wp2_with fail
 go_ret
 exact⟨Ah HT.out.symm,rfl⟩
theorem sS(st:Int)(rb:Nat)(w:World)(h:w.cell? ⟨rb,5,none⟩=some (.int .i64 st)):Calls Tryz.prog 111 #[.pointer (some ⟨rb,0,none⟩),.int .i64 4] w fun e w'=>e=.returned (.bool (Bi st 4))/\w=w':=by
 have HT:=Aia (show Bi st 4=(decide (3<=st)&&decide (st<=4))from rfl)
 by_cases h3:3<=st
 ·rw[decide_eq_true h3]at HT
  go_enter func111,ntmps111
  go_wp2_with fail
  go_ret
  exact⟨Ah HT.out.symm,rfl⟩
 ·rw[decide_eq_false h3]at HT
  go_enter func111,ntmps111
  go_wp2_with fail
  go_ret
  exact⟨Ah HT.out.symm,rfl⟩
theorem sR(st:Int)(rb:Nat)(w:World)(h:w.cell? ⟨rb,5,none⟩=some (.int .i64 st)):Calls Tryz.prog 111 #[.pointer (some ⟨rb,0,none⟩),.int .i64 5] w fun e w'=>e=.returned (.bool (Bi st 5))/\w=w':=by
 have HT:=Aia (show Bi st 5=(st==3||st==4)from rfl)
 obtain⟨z,hz⟩:∃z,(st==3)=z:=⟨_,rfl⟩
 obtain⟨y,hy⟩:∃y,(st==4)=y:=⟨_,rfl⟩
 rw[hz,hy]at HT
 go_enter func111,ntmps111
 cases z
 case false=>
  go_wp2_with fail
  go_ret
  exact⟨Ah HT.out.symm,rfl⟩
 case true=>
  go_wp2_with fail
  go_ret
  exact⟨Ah HT.out.symm,rfl⟩
theorem sQ(st:Int)(rb:Nat)(w:World)(h:w.cell? ⟨rb,5,none⟩=some (.int .i64 st)):Calls Tryz.prog 111 #[.pointer (some ⟨rb,0,none⟩),.int .i64 6] w fun e w'=>e=.returned (.bool (Bi st 6))/\w=w':=by
 have HT:=Aia (show Bi st 6=(decide (3<=st)&&decide (st<=6))from rfl)
 by_cases h3:3<=st
 ·rw[decide_eq_true h3]at HT
  go_enter func111,ntmps111
  go_wp2_with fail
  go_ret
  exact⟨Ah HT.out.symm,rfl⟩
 ·rw[decide_eq_false h3]at HT
  go_enter func111,ntmps111
  go_wp2_with fail
  go_ret
  exact⟨Ah HT.out.symm,rfl⟩
theorem sP(st:Int)(rb:Nat)(w:World)(h:w.cell? ⟨rb,5,none⟩=some (.int .i64 st)):Calls Tryz.prog 111 #[.pointer (some ⟨rb,0,none⟩),.int .i64 7] w fun e w'=>e=.returned (.bool (Bi st 7))/\w=w':=by
 have HT:=Aia (show Bi st 7=(decide (3<=st)&&decide (st<=7))from rfl)
 by_cases h3:3<=st
 ·rw[decide_eq_true h3]at HT
  go_enter func111,ntmps111
  go_wp2_with fail
  go_ret
  exact⟨Ah HT.out.symm,rfl⟩
 ·rw[decide_eq_false h3]at HT
  go_enter func111,ntmps111
  go_wp2_with fail
  go_ret
  exact⟨Ah HT.out.symm,rfl⟩
theorem sO(st:Int)(rb:Nat)(w:World)(h:w.cell? ⟨rb,5,none⟩=some (.int .i64 st)):Calls Tryz.prog 111 #[.pointer (some ⟨rb,0,none⟩),.int .i64 8] w fun e w'=>e=.returned (.bool (Bi st 8))/\w=w':=by
 have HT:=Aia (show Bi st 8=(decide (3<=st)&&decide (st<=8))from rfl)
 by_cases h3:3<=st
 ·rw[decide_eq_true h3]at HT
  go_enter func111,ntmps111
  go_wp2_with fail
  go_ret
  exact⟨Ah HT.out.symm,rfl⟩
 ·rw[decide_eq_false h3]at HT
  go_enter func111,ntmps111
  go_wp2_with fail
  go_ret
  exact⟨Ah HT.out.symm,rfl⟩
theorem sN(st:Int)(rb:Nat)(w:World)(h:w.cell? ⟨rb,5,none⟩=some (.int .i64 st)):Calls Tryz.prog 111 #[.pointer (some ⟨rb,0,none⟩),.int .i64 9] w fun e w'=>e=.returned (.bool (Bi st 9))/\w=w':=by
 have HT:=Aia (show Bi st 9=(decide (3<=st)&&decide (st<=9))from rfl)
 by_cases h3:3<=st
 ·rw[decide_eq_true h3]at HT
  go_enter func111,ntmps111
  go_wp2_with fail
  go_ret
  exact⟨Ah HT.out.symm,rfl⟩
 ·rw[decide_eq_false h3]at HT
  go_enter func111,ntmps111
  go_wp2_with fail
  go_ret
  exact⟨Ah HT.out.symm,rfl⟩
theorem zP(st:Int)(k:Nat)(hk:k<=9)(rb:Nat)(w:World)(h:w.cell? ⟨rb,5,none⟩=some (.int .i64 st)):Calls Tryz.prog 111 #[.pointer (some ⟨rb,0,none⟩),.int .i64 k] w fun e w'=>e=.returned (.bool (Bi st k))/\w=w':=by
 match k,hk with
 |0,_=>exact sW st rb w h
 |1,_=>exact sV st rb w h
 |2,_=>exact sU st rb w h
 |3,_=>exact sT st rb w h
 |4,_=>exact sS st rb w h
 |5,_=>exact sR st rb w h
 |6,_=>exact sQ st rb w h
 |7,_=>exact sP st rb w h
 |8,_=>exact sO st rb w h
 |9,_=>exact sN st rb w h
end
section
open Go.RowKit
theorem Tryz.formZero(w:World):(zeroValue 207).run Tryz.prog w=.ok (Qk (0,ByteArray.empty)) w:=by kernel_rfl
theorem Abj(s:ByteArray)(w:World):
  Calls Tryz.prog 110 #[.string s] w fun e w'=>e=.returned (.tuple #[Qk (Bp s,Ba s),.bool (Dr s)])/\Below w.heap.size w w':=by
 have hm:=fun(W:World)=>show(Instr.makeMap 273 none).run Tryz.prog W=.ok (.map (some W.heap.size)) (Gp W 0)from rfl
 have h0:=fun(W:World)=>show(Instr.mapUpdate 273 (.map (some W.heap.size)) (.string ⟨#[119,105,110,100,111,119]⟩) (.agg #[.int .i64 0,.string ⟨#[110,110]⟩])).run Tryz.prog (Gp W 0)=.ok () (Gp W 1)from Hn underlying273 underlying9 W 0 (by decide) _ rfl
 have h1:=fun(W:World)=>show(Instr.mapUpdate 273 (.map (some W.heap.size)) (.string ⟨#[99,121,99,108,101]⟩) (.agg #[.int .i64 1,.string ⟨#[110]⟩])).run Tryz.prog (Gp W 1)=.ok () (Gp W 2)from Hn underlying273 underlying9 W 1 (by decide) _ rfl
 have h2:=fun(W:World)=>show(Instr.mapUpdate 273 (.map (some W.heap.size)) (.string ⟨#[100,101,108,97,121]⟩) (.agg #[.int .i64 2,.string ⟨#[110]⟩])).run Tryz.prog (Gp W 2)=.ok () (Gp W 3)from Hn underlying273 underlying9 W 2 (by decide) _ rfl
 have h3:=fun(W:World)=>show(Instr.mapUpdate 273 (.map (some W.heap.size)) (.string ⟨#[101,110,116,105,116,121]⟩) (.agg #[.int .i64 3,.string ⟨#[115,110]⟩])).run Tryz.prog (Gp W 3)=.ok () (Gp W 4)from Hn underlying273 underlying9 W 3 (by decide) _ rfl
 have h4:=fun(W:World)=>show(Instr.mapUpdate 273 (.map (some W.heap.size)) (.string ⟨#[112,111,105,110,116]⟩) (.agg #[.int .i64 4,.string ⟨#[115]⟩])).run Tryz.prog (Gp W 4)=.ok () (Gp W 5)from Hn underlying273 underlying9 W 4 (by decide) _ rfl
 have h5:=fun(W:World)=>show(Instr.mapUpdate 273 (.map (some W.heap.size)) (.string ⟨#[99,111,117,110,116]⟩) (.agg #[.int .i64 5,.string ⟨#[112,110,110]⟩])).run Tryz.prog (Gp W 5)=.ok () (Gp W 6)from Hn underlying273 underlying9 W 5 (by decide) _ rfl
 have h6:=fun(W:World)=>show(Instr.mapUpdate 273 (.map (some W.heap.size)) (.string ⟨#[103,97,112]⟩) (.agg #[.int .i64 6,.string ⟨#[112,112,110,110]⟩])).run Tryz.prog (Gp W 6)=.ok () (Gp W 7)from Hn underlying273 underlying9 W 6 (by decide) _ rfl
 have h7:=fun(W:World)=>show(Instr.mapUpdate 273 (.map (some W.heap.size)) (.string ⟨#[101,100,103,101]⟩) (.agg #[.int .i64 7,.string ⟨#[112,112]⟩])).run Tryz.prog (Gp W 7)=.ok () (Gp W 8)from Hn underlying273 underlying9 W 7 (by decide) _ rfl
 have h8:=fun(W:World)=>show(Instr.mapUpdate 273 (.map (some W.heap.size)) (.string ⟨#[102,105,114,115,116]⟩) (.agg #[.int .i64 8,.string ⟨#[112]⟩])).run Tryz.prog (Gp W 8)=.ok () (Gp W 9)from Hn underlying273 underlying9 W 8 (by decide) _ rfl
 have h9:=fun(W:World)=>show(Instr.mapUpdate 273 (.map (some W.heap.size)) (.string ⟨#[108,97,115,116]⟩) (.agg #[.int .i64 9,.string ⟨#[112]⟩])).run Tryz.prog (Gp W 9)=.ok () (Gp W 10)from Hn underlying273 underlying9 W 9 (by decide) _ rfl
 have hl:=fun(W:World)=>Abk underlying273 underlying9 formZero W s
 have hb1:Below w.heap.size w (w.alloc (.cells #[.int .i64 0,.string ⟨#[]⟩] 207)):=(Below.refl _ _).alloc (Nat.le_refl _) _
 have hx:=Ab w (.cells #[.int .i64 0,.string ⟨#[]⟩] 207)
 simp only[Qk]at hl ⊢
 go_enter func110,ntmps110
 go_upto_region 1 with fail
 generalize w.alloc _=w1 at hb1 hx ⊢
 have bm:Below w1.heap.size w1 (Gp w1 10):=(Below.refl _ _).alloc (Nat.le_refl _) _
 have b2:Below w1.heap.size w1 ((Gp w1 10).alloc (.cells #[.int .i64 (Bp s),.string (Ba s)] 207)):=bm.alloc bm.size _
 have hx2:=Af b2 hx (Aa hx)
 have hn2:=Ab (Gp w1 10) (.cells #[.int .i64 (Bp s),.string (Ba s)] 207)
 have HB2:=Aia (hb1.trans (b2.mono hb1.size))
 have hlt:=Aa hx
 have HSZ:=Aia bm.size
 clear hx bm b2 hb1
 go_upto_region 3 with fail
 generalize(Gp w1 10).alloc _=w2 at hx2 hn2 HB2 ⊢
 have HSZ:=HSZ.out
 generalize(Gp w1 10).heap.size=eb at hn2 HSZ ⊢
 have c0:w2.cell? ⟨w.heap.size,0,none⟩=some (.int .i64 0):=by simp[World.cell?,hx2]
 have c1:w2.cell? ⟨w.heap.size,1,none⟩=some (.string ⟨#[]⟩):=by simp[World.cell?,hx2]
 have cf:∀o,w2.frozen? ⟨w.heap.size,o,none⟩=false:=by intro o;simp[World.frozen?,hx2]
 have e0:w2.cell? ⟨eb,0,none⟩=some (.int .i64 (Bp s)):=by simp[World.cell?,hn2]
 have e1:w2.cell? ⟨eb,1,none⟩=some (.string (Ba s)):=by simp[World.cell?,hn2]
 have hne:¬w.heap.size=eb:=by omega
 have hne2:¬eb=w.heap.size:=by omega
 have kv:=(Ai w2 w.heap.size 0 (.int .i64 (Bp s))).setCell (p:=⟨w.heap.size,1,none⟩) (fun _=>rfl) (.string (Ba s))
 have HBE:=Aia (HB2.out.trans (kv.below HB2.out.size (fun b hb=>by omega)))
 clear hm h0 h1 h2 h3 h4 h5 h6 h7 h8 h9 hl hx2 hn2 kv
 go_wp2_with fail
 refine bodyPost_ret (v:=.tuple #[.agg #[.int .i64 (Bp s),.string (Ba s)],.bool (Dr s)]) (by simp[results,results110,go_sem,c0,c1,World.cell?_setCell_same,World.cell?_setCell_other]) rfl ?_
 exact⟨rfl,HBE.out⟩
end
end Go.Proofs.YtikehilbmldadaaGreatDoor
