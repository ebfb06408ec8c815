import Derived.Test.YtikehilbmldadaaGreatDoorRows
import Derived.WalkKit
import Derived.WalkSpells
import Derived.WalkLawsBesides
import Derived.Lib.Hide
import Derived.ProofKit
import Derived.OpenShut
import Derived.Deep.Slices
import Derived.Laws.AppendOwnNone
open Go.Proofs.Tryz Go.Proofs.YtikehilbmldadaaGreatDoor.Tryz
namespace Go.Proofs.YtikehilbmldadaaGreatDoor
theorem Aia{p:Prop}(h:p):Go.RowKit.Hid p:=h
open Go.ChangeShapes Go.WideShapes Go.ChangeAt Go.RowKit
theorem Qb{H:Type}{enc:TypeId × Value->H}{P:Program}(hl:laidOutB P=true){W W':World}(hb:Below W.heap.size W W'){sp:Nat->Bool}:
  ∀{ts:List TypeId} {vs:List Value} {ds:List (DataW H)} {ps:List MemPlace},(∀t∈ts,P.readableRec t=true/\t<P.types.size)->DataW.TrodAll enc P W 0 (fun _=>true) true ts vs ds ps->
   (∀x∈ps,x.block<W.heap.size/\sp x.block=true)->DataW.TrodAll enc P W' 0 sp true ts vs ds ps
 |[],_,_,_,_,h,_=>by
  obtain⟨rfl,rfl,rfl⟩:=trodAll_nil h
  exact rfl
 |t::ts,_,_,_,hr,h,hlt=>by
  obtain⟨v,vs,d,ds,p,q,rfl,rfl,rfl,h1,h2⟩:=trodAll_cons h
  have ht:=hr t (by simp)
  refine⟨p,q,?_,Qb hl hb (fun t h=>hr t (by simp[h])) h2 (fun x hx=>hlt x (by simp[hx])),rfl⟩
  exact WideElems.Trod_stays hl ht.1 ht.2 h1 (fun x hx=>hb.same (hlt x (by simp[hx])).1) (fun x hx=>(hlt x (by simp[hx])).2)
theorem Adf{H:Type}{enc:TypeId × Value->H}{P:Program}{f:Func}{s:ChangeSpec}{W W':World}{args:Array Value}{ds:List (DataW H)}{before:List MemPlace}{tb:TypeId}
  (hl:laidOutB P=true) (hr:f.params.toList.all (fun t=>P.readableRec t&&decide (t<P.types.size))=true) (hvars:s.vars= []) (hres:f.resultTypes=#[tb]) (htb:P.underlying tb=some .bool)
  (hW:DataW.Whole enc P f.params.toList s.vars false W args.toList ds [] before) (hfn:s.fn H ds= { results:=[.lit (.bool true)],args:=ds}) (hb:Below W.heap.size W W'):
  s.post enc P f false true false false W args (.bool true) W':=by
 have hW0:=hW
 obtain⟨p,q,hA,hV,rfl,_,_⟩:=hW
 rw[hvars]at hV
 obtain⟨_,rfl⟩:=trodVars_none hV
 have hr':∀t∈f.params.toList,P.readableRec t=true/\t<P.types.size:=fun t ht=>by
  have:=List.all_eq_true.1 hr t ht
  simpa using this
 have hlt:∀x∈p,x.block<W.heap.size:=fun x hx=>by
  have:=hW0.lt x (by simp[hx])
  simpa using this
 have hfn':s.fn H (ds++ [])= { results:=[.lit (.bool true)],args:=ds}:=by rw[List.append_nil];exact hfn
 refine⟨ds,[],p++ [],[],p,[],hW0,?_,?_,?_,?_,fun h=>by cases h⟩
 ·rw[hres,hfn']
  exact trodAll_cons_mk (shut_bool htb _) trodAll_mk0
 ·rw[hfn']
  exact Qb hl hb hr' hA (fun x hx=>⟨hlt x hx,by simpa using hlt x hx⟩)
 ·rw[hfn',hvars]
  exact rfl
 ·exact hb.frame _
theorem A6{k:IntKind}{a b:Int}(h:a=b):Ending.returned (.int k a)=.returned (.int k b):=by rw[h]
theorem Ah{a b:Bool}(h:a=b):Ending.returned (.bool a)=.returned (.bool b):=by rw[h]
theorem De{a b:Bool}(h:a=b):Value.bool a=.bool b:=by rw[h]
structure Ae (S:Nat->Prop) (w w':World):Prop where
 os:w'.os=w.os
 tape:w'.tape=w.tape
 output:w'.output=w.output
 size:w.heap.size<=w'.heap.size
 block:∀k,k<w.heap.size->¬S k->w'.heap[k]? =w.heap[k]?
theorem Ae.refl(S:Nat->Prop)(w:World):Ae S w w:=⟨rfl,rfl,rfl,Nat.le_refl _,fun _ _ _=>rfl⟩
theorem Ae.trans{S:Nat->Prop}{a b c:World}(h:Ae S a b)(k:Ae S b c):Ae S a c:=
 ⟨k.os.trans h.os,k.tape.trans h.tape,k.output.trans h.output,Nat.le_trans h.size k.size,fun i hi hs=>(k.block i (Nat.lt_of_lt_of_le hi h.size) hs).trans (h.block i hi hs)⟩
theorem Ae.mono{S T:Nat->Prop}{w w':World}(h:Ae S w w')(hs:∀k,k<w.heap.size->S k->T k):Ae T w w':=
 ⟨h.os,h.tape,h.output,h.size,fun k hk ht=>h.block k hk (fun x=>ht (hs k hk x))⟩
theorem Ae.drew{S:Nat->Prop}{a w:World}(h:Ae S a w):Ae S a w.drew:=⟨h.os,h.tape,h.output,h.size,h.block⟩
theorem Ae.alloc{S:Nat->Prop}{a w:World}(h:Ae S a w)(o:Obj):Ae S a (w.alloc o):=
 h.trans ⟨rfl,rfl,rfl,by simp,fun k hk _=>Below.heap_alloc _ _ _ hk⟩
theorem Ae.setCell{S:Nat->Prop}{a w:World}(h:Ae S a w){p:Addr}(hp:p.block<a.heap.size->S p.block)(u:Value):Ae S a (w.setCell p u):=
 ⟨h.os,h.tape,h.output,by simpa [World.setCell] using h.size,fun k hk hs=>(Below.heap_setCell _ _ _ _ (fun e=>by subst e;exact hs (hp hk))).trans (h.block k hk hs)⟩
theorem Ai(w:World)(b o:Nat)(u:Value):Ae (· =b) w (w.setCell ⟨b,o,none⟩ u):=
 Ae.setCell (S:=(· =b)) (p:=⟨b,o,none⟩) (Ae.refl _ _) (fun _=>rfl) u
theorem Gi{b:Nat}{w0 w:World}(h:Ae (· =b) w0 w)(o:Nat)(u:Value):Ae (· =b) w0 (w.setCell ⟨b,o,none⟩ u):=
 Ae.setCell (S:=(· =b)) (p:=⟨b,o,none⟩) h (fun _=>rfl) u
theorem Ae.step{S T:Nat->Prop}{a w w':World}(h:Ae S a w)(k:Ae T w w')(hT:∀b,T b->b<a.heap.size->S b):Ae S a w':=
 ⟨k.os.trans h.os,k.tape.trans h.tape,k.output.trans h.output,Nat.le_trans h.size k.size,fun i hi hs=>(k.block i (Nat.lt_of_lt_of_le hi h.size) (fun t=>hs (hT i t hi))).trans (h.block i hi hs)⟩
theorem Ae.below{S:Nat->Prop}{w w':World}(h:Ae S w w'){B:Nat}(hB:B<=w.heap.size)(hs:∀k,S k->B<=k):Below B w w':=
 ⟨h.os,h.tape,h.output,h.size,fun k hk=>h.block k (by omega) (fun x=>by have:=hs k x;omega)⟩
theorem Ae.of_below{B:Nat}{w w':World}(h:Below B w w'):Ae (fun k=>B<=k) w w':=⟨h.os,h.tape,h.output,h.size,fun k _ hs=>h.block k (by omega)⟩
theorem Ae.of_grown{w w':World}{row:Option Nat}(h:w.grownBy w' row):Ae (fun k=>some k=row) w w':=⟨h.os,h.tape,h.output,h.size,fun k hk hs=>h.block k hk hs⟩
theorem Ae.new{w w':World}(h:Ae (fun _=>False) w w'):Below w.heap.size w w':=⟨h.os,h.tape,h.output,h.size,fun k hk=>h.block k hk (fun x=>x)⟩
theorem Ak{w w':World}(h:Below w.heap.size w w'):Ae (fun _=>False) w w':=⟨h.os,h.tape,h.output,h.size,fun k hk _=>h.block k hk⟩
theorem Ae.cell{S:Nat->Prop}{w w':World}(h:Ae S w w'){p:Addr}(hp:p.block<w.heap.size)(hs:¬S p.block):w'.cell? p=w.cell? p:=World.cell?_of_block (w:=w) (h.block p.block hp hs)
theorem Ae.get{S:Nat->Prop}{w w':World}(h:Ae S w w'){b:Nat}{o:Obj}(hb:w.heap[b]? =some o)(hs:¬S b):w'.heap[b]? =some o:=by
 rw[h.block b (Array.getElem?_eq_some_iff.1 hb).1 hs];exact hb
theorem Af{B:Nat}{w w':World}(h:Below B w w'){b:Nat}{o:Obj}(hb:w.heap[b]? =some o)(hs:b<B):w'.heap[b]? =some o:=by
 rw[h.block b hs];exact hb
theorem Aa{w:World}{b:Nat}{o:Obj}(hb:w.heap[b]? =some o):b<w.heap.size:=(Array.getElem?_eq_some_iff.1 hb).1
theorem Sq{w:World}{b:Nat}{o:Obj}(n:Nat)(h:w.heap[b]? =some o):(w.drewN n).heap[b]? =some o:=h
theorem Ag{B:Nat}{w0 w:World}(n:Nat)(h:Below B w0 w):Below B w0 (w.drewN n):=⟨h.os,h.tape,h.output,h.size,h.block⟩
theorem Dq{S:Nat->Prop}{w0 w:World}(n:Nat)(h:Ae S w0 w):Ae S w0 (w.drewN n):=⟨h.os,h.tape,h.output,h.size,h.block⟩
theorem Am{w:World}{b o:Nat}{cs:Array Value}{t:TypeId}{fr:Nat × Nat}(u:Value)(hb:w.heap[b]? =some (.cells cs t fr)):(w.setCell ⟨b,o,none⟩ u).heap[b]? =some (.cells (cs.setIfInBounds o u) t fr):=by
 simp[World.setCell,Array.getElem?_modify,hb]
theorem Ab(w:World)(o:Obj):(w.alloc o).heap[w.heap.size]? =some o:=heap_alloc_new w o
theorem Cm{w:World}{b:Nat}{x:Obj}(o:Obj)(hb:w.heap[b]? =some x):(w.alloc o).heap[b]? =some x:=by
 rw[Below.heap_alloc _ _ _ (Aa hb)];exact hb
theorem Dy{S:Nat->Prop}{w w':World}{base:Nat}{e:TypeId}{size:Nat}{v:Value}{n:Nat}{xs:List Value}(h:w.ownsRow base e size v n xs)(hk:Ae S w w')(hS:∀b,base<=b->b<w.heap.size->¬S b):w'.ownsRow base e size v n xs:=by
 refine⟨h.1,?_⟩
 rcases h.2 with hn|⟨g,cap,cur,rfl,hb,hgg,rest⟩
 ·exact .inl hn
 ·exact .inr ⟨g,cap,cur,rfl,hb,hk.get hgg (hS g hb (Aa hgg)),rest⟩
def Ay(R:Nat->Prop)(w:World)(v:Value)(sz:Nat)(cs:List Value)(n:Nat):Prop:=
 cs.length=n*sz/\∃(ao:Option Addr) (cap:Nat),v=.slice ao n cap/\n<=cap/\cap<=maxLen/\(ao=none->cap=0)/\
  (0<cs.length->∃b off,ao=some ⟨b,off,none⟩/\R b/\b<w.heap.size/\∀k u,cs[k]? =some u->w.cell? ⟨b,off+k,none⟩=some u)
theorem Ay.keep{R S:Nat->Prop}{w w':World}{v:Value}{sz:Nat}{cs:List Value}{n:Nat}(h:Ay R w v sz cs n)(hk:Ae S w w')(hd:∀b,R b->¬S b):Ay R w' v sz cs n:=by
 obtain⟨hl,ao,cap,hv,h1,h2,h3,h4⟩:=h
 refine⟨hl,ao,cap,hv,h1,h2,h3,fun hp=>?_⟩
 obtain⟨b,off,ha,hR,hb,hc⟩:=h4 hp
 exact⟨b,off,ha,hR,Nat.lt_of_lt_of_le hb hk.size,fun k u hu=>by rw[hk.cell hb (hd b hR)];exact hc k u hu⟩
theorem Ay.mono{R S:Nat->Prop}{w:World}{v:Value}{sz:Nat}{cs:List Value}{n:Nat}(h:Ay R w v sz cs n)(hd:∀b,R b->S b):Ay S w v sz cs n:=by
 obtain⟨hl,ao,cap,hv,h1,h2,h3,h4⟩:=h
 refine⟨hl,ao,cap,hv,h1,h2,h3,fun hp=>?_⟩
 obtain⟨b,off,ha,hR,hb,hc⟩:=h4 hp
 exact⟨b,off,ha,hd b hR,hb,hc⟩
theorem Ay.below{B:Nat}{R:Nat->Prop}{w w':World}{v:Value}{sz:Nat}{cs:List Value}{n:Nat}(h:Ay R w v sz cs n)(hk:Below B w w')(hd:∀b,R b->b<B):Ay R w' v sz cs n:=
 h.keep (Ae.of_below hk) (fun b hb=>by have:=hd b hb;omega)
theorem Ay.nil(R:Nat->Prop)(w:World)(sz:Nat):Ay R w (.slice none 0 0) sz [] 0:=⟨by simp,none,0,rfl,by omega,by simp[maxLen],fun _=>rfl,fun h=>by simp at h⟩
theorem O0{α β:Type}(f:α->List β)(sz:Nat)(hf:∀x,(f x).length=sz):∀(l:List α) (k:Nat) (hk:k<l.length) (j:Nat),j<sz->(l.flatMap f)[k*sz+j]? =(f l[k])[j]?
 |[],k,hk,_,_=>by simp at hk
 |x::l,0,_,j,hj=>by
  rw[List.flatMap_cons,List.getElem?_append_left (by rw[hf];omega)]
  simp
 |x::l,k+1,hk,j,hj=>by
  rw[List.flatMap_cons,List.getElem?_append_right (by rw[hf,Nat.add_mul];omega),hf]
  have:=O0 f sz hf l k (by simpa using hk) j hj
  rw[show(k+1)*sz+j-sz=k*sz+j from by rw[Nat.add_mul];omega]
  simpa using this
theorem Dn{α β:Type}(f:α->List β)(sz:Nat)(hf:∀x,(f x).length=sz)(l:List α):(l.flatMap f).length=l.length*sz:=by
 induction l with
 |nil=>simp
 |cons x l ih=>rw[List.flatMap_cons,List.length_append,hf,ih,List.length_cons,Nat.add_mul];omega
theorem Ay.elem{α:Type}{f:α->List Value}{R:Nat->Prop}{w:World}{ao:Option Addr}{n cap sz:Nat}{l:List α}(h:Ay R w (.slice ao n cap) sz (l.flatMap f) l.length)(hf:∀x,(f x).length=sz)(hsz:0<sz)(h0:0<l.length):
  ∃b off,ao=some ⟨b,off,none⟩/\R b/\b<w.heap.size/\∀k (hk:k<l.length) j u,(f l[k])[j]? =some u->w.cell? ⟨b,off+k*sz+j,none⟩=some u:=by
 obtain⟨hl,ao',cap',hv,h1,h2,h3,h4⟩:=h
 obtain⟨rfl,rfl,rfl⟩:=hv
 obtain⟨b,off,ha,hR,hb,hc⟩:=h4 (by rw[hl];exact Nat.mul_pos h0 hsz)
 refine⟨b,off,ha,hR,hb,fun k hk j u hu=>?_⟩
 have hj:j<sz:=by rw[<-hf l[k]];exact(List.getElem?_eq_some_iff.1 hu).1
 rw[Nat.add_assoc]
 exact hc _ _ (by rw[O0 f sz hf l k hk j hj];exact hu)
theorem Cz(b off k:Nat):(⟨b,off,none⟩:Addr).add k=⟨b,off+k,none⟩:=by unfold Addr.add;split<;>simp_all
theorem Av(w:World)(l:List Value)(t:TypeId):∀j u,l[j]? =some u->(w.alloc (.cells l.toArray t)).cell? ((⟨w.heap.size,0,none⟩:Addr).add j)=some u:=by
 intro j u hu
 have h:=Ab w (.cells l.toArray t)
 rw[Cz,Nat.zero_add,cell_of_row _ _ j _ _ _ h]
 simpa using hu
end Go.Proofs.YtikehilbmldadaaGreatDoor
