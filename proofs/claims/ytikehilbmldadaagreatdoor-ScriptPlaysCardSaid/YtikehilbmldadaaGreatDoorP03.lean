import Derived.Test.YtikehilbmldadaaGreatDoorP02
import Derived.Laws.AppendOwn
import Derived.Deep.RegionLaw
import Derived.Deep.DeepCutAuto
import Derived.Deep.QuietTactic
import Derived.Deep.DeepMust
import Derived.BigQuiet
set_option linter.unusedVariables false
namespace Go.Proofs.YtikehilbmldadaaGreatDoor
open Proofs.Tryz YtikehilbmldadaaGreatDoor.Tryz RowKit
open Go renaming World->V,Value->ZE,Value.slice->F,Obj.cells->ZC
open Option renaming some->U,none->O
theorem Jw{P:Program}{w:V}{D:Array Oper}{o:Oper}{a:Act}{K:Act->V->Prop}{Q:Exit->Act->V->Prop}{E:Prop}(N:o.guard=O)(s x:Operand)(t:TypeId)
  (ho:o.op=.call { callee:=.builtin .append,args:=#[s,x],argTypes:=#[t,t]})
  (l:Nat) (e:TypeId) (i:TypeInfo) (z:ZE) (size f:Nat) (ht:P.underlying t=U (.slice e)) (hi:P.info? e=U i) (hz:i.zero=U z)
  (B:i.size=size) (M:i.bytes=f) (T:z.cells.size=size) (R:0<size)
  (v:ZE) (n:Nat) (X:List ZE) (hs:a.eval s=v) (C:w.ownsRow l e size v n X)
  (H:Addr) (m c:Nat) (d:List ZE) (hx:a.eval x=F (U H) m c) (hl:d.length=m*size) (A:∀j u,d[j]? =U u->w.cell? (H.add j)=U u) (h1:∀u∈d,u.oneCell'=true)
  (L:n+m<=maxLen) (q:(n+m)*f<=140737488355328) (y:l<=w.heap.size)
  (h:∀ao cap w',w'.ownsRow l e size (F ao (n+m) cap) (n+m) (X++d)->w.grownBy w' v.ownBlock->K (a.put o.dst (F ao (n+m) cap)) w'):
  if Region.wanted o (yielded D a.tmps)=true then Oper.wp P o a w K Q else E:=by
 have hw:Region.wanted o (yielded D a.tmps)=true:=by simp[Region.wanted,N]
 rw[if_pos hw];refine wp_append_own w s x t ho l e i z size f ht hi hz B M T R v n X hs C H m c d hx hl A h1 L q y ?_;intro v' w' p Y _;rcases p.2 with⟨S,Z⟩|⟨g,cap,aa,S,_⟩
 ·rw[S]at p ⊢;have:=h O 0 w' (by rw[Z]at p ⊢;exact p) Y;rw[Z]at this;exact this
 ·rw[S]at p ⊢;exact h _ _ w' p Y
theorem Nr{S:Nat->Prop}{w w':V}{a:Nat}{e:TypeId}{size:Nat}{v:ZE}{n:Nat}{i:List ZE}(h:w.ownsRow a e size v n i)(m:Ac S w w')(j:∀b,v.ownBlock=U b->¬S b):w'.ownsRow a e size v n i:=by
 refine⟨h.1,?_⟩;rcases h.2 with o|⟨g,cap,d,rfl,l,f,rest⟩
 ·exact .inl o
 ·exact .inr ⟨g,cap,d,rfl,l,m.get f (j g rfl),rest⟩
theorem Aaf{w:V}{a:Addr}{v:ZE}(h:w.cell? a=U v)(o:Obj):(w.alloc o).cell? a=U v:=by
 have d:=R3 w a h;rw[Zy7 (w:=w) (Zyb _ _ _ d)];exact h
theorem Au{w:V}{b:Nat}{c0 c1:ZE}{t:TypeId}(h:w.heap[b]? =U (ZC #[c0,c1] t)):
  w.cell? ⟨b,0,O⟩=U c0/\w.cell? ⟨b,1,O⟩=U c1/\∀o,w.frozen? ⟨b,o,O⟩=false:=by
 simp[World.cell?,World.frozen?,h]
theorem Ag4{W w1:V}{g:Nat}{c0 c1:ZE}{t:TypeId}{o:Option Nat}(d:W.grownBy w1 o)(a:W.heap[g]? =U (ZC #[c0,c1] t))(hne:o≠U g):
  w1.heap[g]? =U (ZC #[c0,c1] t):=by
 rw[d.block g (Aa a) (fun e=>hne e.symm)];exact a
theorem Xs(w:V)(l:List ZE)(t:TypeId)(a n:Nat)(d:l.length=n*a)(e:n<=maxLen):Av (· =w.heap.size) (w.alloc (ZC l.toArray t)) (F (U ⟨w.heap.size,0,O⟩) n n) a l n:=by
 refine⟨d,_,_,rfl,Y2 _,e,(fun h=>by cases h),fun _=>⟨w.heap.size,0,rfl,rfl,by simp,fun k u f=>?_⟩⟩;have:=A1 w l t k u f;rwa [Dt]at this
theorem Ge{w:V}{a:Nat}{e:TypeId}{size:Nat}{v:ZE}{n:Nat}{j:List ZE}(h:w.ownsRow a e size v n j):Av (fun b=>a<=b) w v size j n:=by
 obtain⟨m,p⟩:=h;rcases p with⟨rfl,rfl⟩|⟨g,cap,i,rfl,o,l,h1,h2,_,d⟩
 ·obtain rfl:j= []:=H3 (by simpa using m);exact Av.nil _ _ _
 ·refine⟨m,_,_,rfl,h1,h2,(fun h=>by cases h),fun _=>⟨g,0,rfl,o,Aa l,fun k u f=>?_⟩⟩;rw[Zzt,cell_of_row w g k i e (0,0) l];rw[<-d,Zyv]at f;split at f
  ·simpa using f
  ·cases f
theorem Ay{w:V}{b:Nat}{c0 c1 a d:ZE}{t:TypeId}(h:w.heap[b]? =U (ZC #[c0,c1,a,d] t)):
  w.cell? ⟨b,0,O⟩=U c0/\w.cell? ⟨b,1,O⟩=U c1/\w.cell? ⟨b,2,O⟩=U a/\w.cell? ⟨b,3,O⟩=U d:=by
 simp[World.cell?,h]
theorem Bc{P:Program}{w:V}{D:Array Oper}{rest:List Oper}{o:Oper}{a:Act}{Q:Exit->Act->V->Prop}(L:o.guard=O)(s x:Operand)(t:TypeId)
  (ho:o.op=.call { callee:=.builtin .append,args:=#[s,x],argTypes:=#[t,t]})
  (l:Nat) (e:TypeId) (i:TypeInfo) (z:ZE) (size f:Nat) (ht:P.underlying t=U (.slice e)) (hi:P.info? e=U i) (hz:i.zero=U z)
  (B:i.size=size) (K:i.bytes=f) (R:z.cells.size=size) (M:0<size)
  (v:ZE) (n:Nat) (S:List ZE) (hs:a.eval s=v) (C:w.ownsRow l e size v n S)
  (E:Addr) (m c:Nat) (d:List ZE) (hx:a.eval x=F (U E) m c) (Z:d.length=m*size) (A:∀j u,d[j]? =U u->w.cell? (E.add j)=U u) (h1:∀u∈d,u.oneCell'=true)
  (H:n+m<=maxLen) (q:(n+m)*f<=140737488355328) (y:l<=w.heap.size)
  (h:∀ao cap w',w'.ownsRow l e size (F ao (n+m) cap) (n+m) (S++d)->w.grownBy w' v.ownBlock->wpList P D Q rest (a.put o.dst (F ao (n+m) cap)) w'):
  wpList P D Q (o::rest) a w:=by
 refine wpList_append_own w L s x t ho l e i z size f ht hi hz B K R M v n S hs C E m c d hx Z A h1 H q y ?_;intro v' w' p T _;rcases p.2 with⟨N,X⟩|⟨g,cap,Y,N,_⟩
 ·rw[N]at p ⊢;have:=h O 0 w' (by rw[X]at p ⊢;exact p) T;rw[X]at this;exact this
 ·rw[N]at p ⊢;exact h _ _ w' p T
theorem Av.here{R:Nat->Prop}{w:V}{v:ZE}{e:Nat}{a:List ZE}{n:Nat}(h:Av R w v e a n):Av (· <w.heap.size) w v e a n:=by
 obtain⟨l,f,cap,o,h1,h2,h3,g⟩:=h;refine⟨l,f,cap,o,h1,h2,h3,fun m=>?_⟩;obtain⟨b,off,i,p,d,j⟩:=g m;exact⟨b,off,i,d,d,j⟩
theorem Anb{α:Type}(f g:α->Bool)(l:List α):(l.any f||l.any g)=l.any (fun x=>f x||g x):=by
 induction l with
 |nil=>rfl
 |cons x l ih=>simp only[List.any_cons,<-ih];cases f x<;>cases g x<;>simp
