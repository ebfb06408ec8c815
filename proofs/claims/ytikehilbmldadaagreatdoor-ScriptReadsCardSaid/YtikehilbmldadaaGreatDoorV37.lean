import Derived.Test.YtikehilbmldadaaGreatDoorV36
import Derived.Test.YtikehilbmldadaaGreatDoorV15
import Derived.BigRegion
set_option maxHeartbeats 8000000
set_option maxRecDepth 100000
set_option linter.unusedVariables false
open Go.Proofs.Tryz Go.Proofs.YtikehilbmldadaaGreatDoor.Tryz
namespace Go.Proofs.YtikehilbmldadaaGreatDoor
open Go.RowKit
def fT(j:Nat):TypeId:=[9,126,127,3,3].getD j 3
def fS(j:Nat):Nat:=[1,4,2,1,1].getD j 1
def fO(j:Nat):Nat:=[2,6,7,8,9].getD j 2
def fV(y:Aw)(j:Nat):Value:=[y.p,y.g,y.e,y.f,y.l].getD j y.p
def fN(E:Ap)(j:Nat):Nat:=[E.points.length,E.gaps.length,E.edges.length,E.first.length,E.last.length].getD j 0
def fC(E:Ap)(j:Nat):List Value:=[Ad E.points,E.gaps.flatMap Ck,E.edges.flatMap Cd,Ac E.first,Ac E.last].getD j []
def Lv(base:Nat)(o:Nat->Option Nat)(t:Nat)(y:Aw)(w:World):Prop:=
 ∀j,j<5->As w base (fT j) (fS j) (fV y j) (fN y.E j) (fC y.E j)/\∀b,(fV y j).ownBlock=some b->o b=some (t+j)
theorem Lv.keep{base:Nat}{o o':Nat->Option Nat}{t:Nat}{y:Aw}{S:Nat->Prop}{w w':World}(h:Lv base o t y w)(k:Ae S w w')(hS:∀b,b<w.heap.size->S b->∀j,j<5->o b≠some (t+j))(ho:∀b,b<w.heap.size->o' b=o b):Lv base o' t y w':=by
 intro j hj
 obtain⟨h1,h2⟩:=h j hj
 refine⟨h1.keep k (fun b hb hs=>hS b (h1.lt b hb).2 hs j hj (h2 b hb)),fun b hb=>?_⟩
 rw[ho b (h1.lt b hb).2]
 exact h2 b hb
theorem Lv.slOf{base:Nat}{o:Nat->Option Nat}{t:Nat}{y:Aw}{w:World}(h:Lv base o t y w):Ih (fun b=>base<=b/\b<w.heap.size) w y.E y.p y.g y.e y.f y.l:=by
 have k:∀{v:Value} {e:TypeId} {sz:Nat} {cs:List Value} {n:Nat},As w base e sz v n cs->Ay (fun b=>base<=b/\b<w.heap.size) w v sz cs n:=by
  intro v e sz cs n h
  obtain⟨hl,ao,cap,hv,h1,h2,h3,h4⟩:=h.slOf
  refine⟨hl,ao,cap,hv,h1,h2,h3,fun hp=>?_⟩
  obtain⟨b,off,ha,hR,hb,hc⟩:=h4 hp
  exact⟨b,off,ha,⟨hR.1,hb⟩,hb,hc⟩
 exact⟨k (h 0 (by decide)).1,k (h 1 (by decide)).1,k (h 2 (by decide)).1,k (h 3 (by decide)).1,k (h 4 (by decide)).1⟩
def P9(C:Al)(v:Value)(st:Int):Array Value:=#[.int .i64 C.closed,.int .i64 C.opn,.int .i64 C.cycle,.int .i64 C.delay,v,.int .i64 st]
structure Ei (base rb:Nat) (o:Nat->Option Nat) (C:Al) (st:Int) (v:Value) (Y:List Aw) (w:World):Prop where
 blk:w.heap[rb]? =some (.cells (P9 C v st) 150)
 lo:rb<base
 top:base<=w.heap.size
 fr:∀b,w.heap.size<=b->o b=none
 ob:∀b,b<base->o b=none
 row:As w base 50 10 v Y.length (Y.flatMap Aj)
 rt:∀b,v.ownBlock=some b->o b=some 0
 own:∀i (hi:i<Y.length),Lv base o (1+5*i) Y[i] w
 eq:C.ents=Y.map Aw.E
theorem Ei.keep{base rb:Nat}{o:Nat->Option Nat}{C:Al}{st:Int}{v:Value}{Y:List Aw}{S:Nat->Prop}{w w':World}(h:Ei base rb o C st v Y w)(k:Ae S w w')(hS:∀b,b<w.heap.size->S b->b≠rb/\o b=none):Ei base rb o C st v Y w':=by
 have hl:=Aa h.blk
 refine⟨k.get h.blk (fun hs=>(hS rb hl hs).1 rfl),h.lo,Nat.le_trans h.top k.size,fun b hb=>h.fr b (Nat.le_trans k.size hb),h.ob,?_,h.rt,fun i hi=>?_,h.eq⟩
 ·exact h.row.keep k (fun b hb hs=>by have:=(hS b (h.row.lt b hb).2 hs).2;rw[h.rt b hb]at this;cases this)
 ·exact(h.own i hi).keep k (fun b hb hs j hj=>by rw[(hS b hb hs).2];simp) (fun _ _=>rfl)
theorem Ei.later{base rb:Nat}{o:Nat->Option Nat}{C:Al}{st:Int}{v:Value}{Y:List Aw}{w w':World}(h:Ei base rb o C st v Y w)(b:Below w.heap.size w w'):Ei base rb o C st v Y w':=
 h.keep (Ak b) (fun _ _ h=>h.elim)
theorem Ek{w:World}{rb:Nat}{C:Al}{v:Value}{st:Int}(h:w.heap[rb]? =some (.cells (P9 C v st) 150)):
  w.cell? ⟨rb,0,none⟩=some (.int .i64 C.closed)/\w.cell? ⟨rb,1,none⟩=some (.int .i64 C.opn)/\w.cell? ⟨rb,2,none⟩=some (.int .i64 C.cycle)/\w.cell? ⟨rb,3,none⟩=some (.int .i64 C.delay)/\w.cell? ⟨rb,4,none⟩=some v/\w.cell? ⟨rb,5,none⟩=some (.int .i64 st)/\∀o,w.frozen? ⟨rb,o,none⟩=false:=by
 unfold P9 at h
 simp[World.cell?,World.frozen?,h]
theorem Ei.set{base rb:Nat}{o:Nat->Option Nat}{C C':Al}{st st':Int}{v:Value}{Y:List Aw}{w:World}(h:Ei base rb o C st v Y w)(k:Nat)(u:Value)(he:(P9 C v st).setIfInBounds k u=P9 C' v st')(hC:C'.ents=C.ents):Ei base rb o C' st' v Y (w.setCell ⟨rb,k,none⟩ u):=by
 have kk:=Ai w rb k u
 have hor:o rb=none:=h.ob rb h.lo
 refine⟨?_,h.lo,Nat.le_trans h.top kk.size,fun b hb=>h.fr b (Nat.le_trans kk.size hb),h.ob,?_,h.rt,fun i hi=>?_,by rw[hC];exact h.eq⟩
 ·rw[Am _ h.blk,he]
 ·exact h.row.keep kk (fun b hb hs=>by have:=h.rt b hb;rw[show b=rb from hs,hor]at this;cases this)
 ·exact(h.own i hi).keep kk (fun b hb hs j hj=>by rw[show b=rb from hs,hor];simp) (fun _ _=>rfl)
theorem As.stored{w:World}{base:Nat}{e:TypeId}{size g off n cap:Nat}{xs:List Value}(h:As w base e size (.slice (some ⟨g,off,none⟩) n cap) n xs)(j:Nat)(hj:j<n*size)(u:Value):
  As (w.setCell ⟨g,off+j,none⟩ u) base e size (.slice (some ⟨g,off,none⟩) n cap) n (xs.set j u)/\w.frozen? ⟨g,off+j,none⟩=false:=by
 rcases h.2 with⟨h',_⟩|⟨g',off',cap',cur,hv,h2,h3,h4,h5,h6,h7⟩
 ·cases h'
 ·obtain⟨e1,_,e3⟩:=Value.slice.inj hv
  obtain⟨rfl,rfl,_⟩:=Addr.mk.inj (Option.some.inj e1)
  subst e3
  refine⟨⟨by rw[List.length_set];exact h.1,.inr ⟨g,off,cap,cur.setIfInBounds (off+j) u,rfl,h2,Am u h3,h4,h5,by simpa using h6,?_⟩⟩,by simp[World.frozen?,h3]⟩
  rw[Array.toList_setIfInBounds,<-h7]
  apply List.ext_getElem?
  intro i
  simp only[List.getElem?_take,List.getElem?_drop,List.getElem?_set,List.length_take,List.length_drop,Array.length_toList]
  have hm:n*size<=cap*size:=Nat.mul_le_mul_right _ h4
  by_cases hi:i<n*size
  ·simp only[hi,if_true]
   by_cases hij:j=i
   ·subst hij
    rw[if_pos rfl,if_pos rfl,if_pos (by omega),if_pos (by omega)]
   ·rw[if_neg (by omega),if_neg hij]
  ·simp only[hi,if_false]
   rw[if_neg (by omega)]
theorem Ei.form{base rb:Nat}{o:Nat->Option Nat}{C:Al}{st:Int}{v:Value}{Z:List Aw}{y:Aw}{w:World}(h:Ei base rb o C st v (Z++ [y]) w):
  ∃g off cap,v=.slice (some ⟨g,off,none⟩) (Z.length+1) cap/\(Z.length+1<=cap/\cap<=maxLen)/\o g=some 0/\base<=g/\g<w.heap.size/\g≠rb/\∀k u,(Aj y)[k]? =some u->w.cell? ⟨g,off+(Z.length*10+k),none⟩=some u:=by
 have hr:=h.row
 rw[List.length_append,List.length_singleton]at hr
 rcases hr.2 with⟨_,h0⟩|⟨g,off,cap,cur,rfl,h2,h3,h4,h5,h6,h7⟩
 ·omega
 ·refine⟨g,off,cap,rfl,⟨h4,h5⟩,h.rt g rfl,h2,Aa h3,by have:=h.lo;omega,fun k u hu=>?_⟩
  have:=hr.cells (g:=g) (off:=off) (cap:=cap) (Z.length*10+k) u (by
   rw[List.flatMap_append,List.getElem?_append_right (by rw[Dn Aj 10 (fun _=>rfl)];omega),Dn Aj 10 (fun _=>rfl)]
   simpa using hu)
  rw[Cz]at this
  exact this
theorem Yb(Z:List Aw)(y y':Aw)(k:Nat)(hk:k<10)(u:Value)(he:Aj y'=(Aj y).set k u):((Z++ [y]).flatMap Aj).set (Z.length*10+k) u=(Z++ [y']).flatMap Aj:=by
 have hl:(Z.flatMap Aj).length=Z.length*10:=Dn Aj 10 (fun _=>rfl) Z
 rw[List.flatMap_append,List.flatMap_append,List.flatMap_singleton,List.flatMap_singleton,he,List.set_append_right _ _ (by omega),hl,Nat.add_sub_cancel_left]
theorem Ze{o:Nat->Option Nat}{T:Nat}{v v2:Value}{w1:World}(hn:v2.ownBlock=v.ownBlock\/∀b,v2.ownBlock=some b->w1.heap.size<=b)(hv:∀b,v.ownBlock=some b->o b=some T){b:Nat}(hb:b<w1.heap.size)(h2:v2.ownBlock=some b):o b=some T:=by
 rcases hn with hn|hn
 ·exact hv b (by rw[<-hn];exact h2)
 ·have:=hn b h2;omega
theorem Ei.appF{base rb:Nat}{o:Nat->Option Nat}{C C':Al}{st:Int}{Z:List Aw}{y y':Aw}{w w1 w2:World}{g off cap:Nat}(h:Ei base rb o C st (.slice (some ⟨g,off,none⟩) (Z.length+1) cap) (Z++ [y]) w)(j:Nat)(hj:j<5)(b1:Below w.heap.size w w1){v2:Value}{n:Nat}{cs:List Value}
  (ho:As w2 base (fT j) (fS j) v2 n cs) (hg:w1.grownBy w2 (fV y j).ownBlock) (hn:v2.ownBlock=(fV y j).ownBlock\/∀b,v2.ownBlock=some b->w1.heap.size<=b)
  (hX:Aj y'=(Aj y).set (fO j) v2) (hO:(Aj y)[fO j]? =some (fV y j)) (hs:∀i,i<5->i≠j->fV y' i=fV y i/\fN y'.E i=fN y.E i/\fC y'.E i=fC y.E i) (hj2:fV y' j=v2/\fN y'.E j=n/\fC y'.E j=cs)
  (hC:P9 C' (.slice (some ⟨g,off,none⟩) (Z.length+1) cap) st=P9 C (.slice (some ⟨g,off,none⟩) (Z.length+1) cap) st) (hE:C'.ents=(Z++ [y']).map Aw.E):
  (∃o',Ei base rb o' C' st (.slice (some ⟨g,off,none⟩) (Z.length+1) cap) (Z++ [y']) (w2.setCell ⟨g,off+(Z.length*10+fO j),none⟩ v2))/\Ae (fun b=>∃t,o b=some t) w (w2.setCell ⟨g,off+(Z.length*10+fO j),none⟩ v2)/\
   w2.cell? ⟨g,off+(Z.length*10+fO j),none⟩=some (fV y j)/\w2.frozen? ⟨g,off+(Z.length*10+fO j),none⟩=false:=by
 have hfo:fO j<10:=by
  match j,hj with
  |0,_=>decide
  |1,_=>decide
  |2,_=>decide
  |3,_=>decide
  |4,_=>decide
 have hzl:(Z++ [y]).length=Z.length+1:=by rw[List.length_append,List.length_singleton]
 have hym:=h.own Z.length (by omega)
 rw[List.getElem_concat_length rfl]at hym
 obtain⟨hyj,hyt⟩:=hym j hj
 have hgw:g<w.heap.size:=(h.row.lt g rfl).2
 have hgo:o g=some 0:=h.rt g rfl
 have hsz1:=b1.size
 have k1:Ae (fun b=>o b=some (1+5*Z.length+j)) w w2:=(Ae.refl _ w).step (Ae.of_below b1) (fun b hb hl=>by omega) |>.step (Ae.of_grown hg) (fun b hb hl=>hyt b (Eq.symm hb))
 have k2:=Ai w2 g (off+(Z.length*10+fO j)) v2
 have k3:Ae (fun b=>o b=some (1+5*Z.length+j)\/b=g) w (w2.setCell ⟨g,off+(Z.length*10+fO j),none⟩ v2):=(k1.mono (fun b _ hb=>.inl hb)).step k2 (fun b hb _=>.inr hb)
 have hsz:=k3.size
 have hrow2:=h.row.keep k1 (fun b hb hs=>by rw[h.rt b hb]at hs;injection hs with hs;omega)
 rw[hzl]at hrow2
 have hpos:Z.length*10+fO j<(Z.length+1)*10:=by omega
 have hst:=hrow2.stored (Z.length*10+fO j) hpos v2
 have hcell:=hrow2.cells (Z.length*10+fO j) (fV y j) (by
  rw[List.flatMap_append,List.getElem?_append_right (by rw[Dn Aj 10 (fun _=>rfl)];omega),Dn Aj 10 (fun _=>rfl)]
  simpa using hO)
 rw[Cz]at hcell
 have hng:v2.ownBlock≠some g:=fun e=>by
  have:=Ze hn hyt (by omega) e
  rw[hgo]at this
  injection this with this
  omega
 refine⟨⟨fun b=>if v2.ownBlock=some b then some (1+5*Z.length+j) else o b,?_⟩,k3.mono (fun b _ hb=>by rcases hb with hb|rfl;exact⟨_,hb⟩;exact⟨_,hgo⟩),hcell,hst.2⟩
 have hob:∀b,b<w.heap.size->(if v2.ownBlock=some b then some (1+5*Z.length+j) else o b)=o b:=by
  intro b hb
  split
  ·next e=>exact(Ze hn hyt (by omega) e).symm
  ·rfl
 have hrb:o rb=none:=h.ob rb h.lo
 have hrl:=Aa h.blk
 refine⟨?_,h.lo,Nat.le_trans h.top hsz,fun b hb=>?_,fun b hb=>?_,?_,fun b hb=>?_,fun i hi=>?_,hE⟩
 ·rw[hC]
  exact k3.get h.blk (fun hs=>by rcases hs with hs|hs;rw[hrb]at hs;cases hs;rw[hs,hgo]at hrb;cases hrb)
 ·rw[if_neg (fun e=>by have:=(ho.lt b e).2;have:=k2.size;omega)]
  exact h.fr b (by omega)
 ·rw[if_neg (fun e=>by have:=(ho.lt b e).1;omega)]
  exact h.ob b hb
 ·have:=hst.1
  rw[Yb Z y y' (fO j) hfo v2 hX]at this
  rw[List.length_append,List.length_singleton]
  exact this
 ·obtain rfl:g=b:=Option.some.inj hb
  rw[if_neg hng]
  exact hgo
 ·rw[List.length_append,List.length_singleton]at hi
  by_cases him:i<Z.length
  ·have hy:=h.own i (by omega)
   rw[List.getElem_append_left him]at hy ⊢
   refine hy.keep k3 (fun b hb hs i' hi' hh=>?_) hob
   rcases hs with hs|rfl
   ·rw[hs]at hh;injection hh with hh;omega
   ·rw[hgo]at hh;injection hh with hh;omega
  ·obtain rfl:i=Z.length:=by omega
   rw[List.getElem_concat_length rfl]
   intro i' hi'
   by_cases hij:i'=j
   ·subst hij
    obtain⟨q1,q2,q3⟩:=hj2
    rw[q1,q2,q3]
    refine⟨ho.keep k2 (fun b hb hs=>hng (by rw[<-show b=g from hs];exact hb)),fun b hb=>if_pos hb⟩
   ·obtain⟨q1,q2,q3⟩:=hs i' hi' hij
    rw[q1,q2,q3]
    obtain⟨p1,p2⟩:=hym i' hi'
    refine⟨p1.keep k3 (fun b hb hs=>?_),fun b hb=>?_⟩
    ·rcases hs with hs|rfl
     ·rw[p2 b hb]at hs;injection hs with hs;omega
     ·rw[p2 b hb]at hgo;injection hgo with hgo;omega
    ·show(if v2.ownBlock=some b then some (1+5*Z.length+j) else o b)=_
     rw[hob b (p1.lt b hb).2]
     exact p2 b hb
theorem Ei.far{base rb:Nat}{o:Nat->Option Nat}{C:Al}{st:Int}{v:Value}{Y:List Aw}{w w1 w2:World}(h:Ei base rb o C st v Y w)(b1:Below w.heap.size w w1){u:Value}{T:Nat}(hu:∀b,u.ownBlock=some b->o b=some T)(hg:w1.grownBy w2 u.ownBlock):
  ∀b k,b<w.heap.size->o b=none->w2.cell? ⟨b,k,none⟩=w.cell? ⟨b,k,none⟩/\w2.frozen? ⟨b,k,none⟩=w.frozen? ⟨b,k,none⟩:=by
 intro b k hb hn
 have k1:Ae (fun b=>o b=some T) w w2:=(Ae.refl _ w).step (Ae.of_below b1) (fun b hb hl=>by have:=b1.size;omega) |>.step (Ae.of_grown hg) (fun b hb hl=>hu b (Eq.symm hb))
 have e:=k1.block b hb (fun hs=>by rw[hn]at hs;cases hs)
 exact⟨World.cell?_of_block (a:=⟨b,k,none⟩) e,World.frozen?_of_block (a:=⟨b,k,none⟩) e⟩
theorem Ei.appE{base rb:Nat}{o:Nat->Option Nat}{C:Al}{st:Int}{v v2:Value}{Y:List Aw}{w w1 w2:World}(h:Ei base rb o C st v Y w)(b1:Below w.heap.size w w1)(name:ByteArray)(tol:Int)
  (ho:As w2 base 50 10 v2 (Y.length+1) (Y.flatMap Aj++Aj ⟨Mi name tol,.slice none 0 0,.slice none 0 0,.slice none 0 0,.slice none 0 0,.slice none 0 0⟩)) (hg:w1.grownBy w2 v.ownBlock) (hn:v2.ownBlock=v.ownBlock\/∀b,v2.ownBlock=some b->w1.heap.size<=b):
  (∃o',Ei base rb o' { C with ents:=C.ents++ [Mi name tol]} st v2 (Y++ [⟨Mi name tol,.slice none 0 0,.slice none 0 0,.slice none 0 0,.slice none 0 0,.slice none 0 0⟩]) (w2.setCell ⟨rb,4,none⟩ v2))/\Ae (fun b=>b=rb\/∃t,o b=some t) w (w2.setCell ⟨rb,4,none⟩ v2)/\w2.cell? ⟨rb,4,none⟩=some v/\w2.frozen? ⟨rb,4,none⟩=false:=by
 have hsz1:=b1.size
 have hrb:o rb=none:=h.ob rb h.lo
 have hrl:=Aa h.blk
 have k1:Ae (fun b=>o b=some 0) w w2:=(Ae.refl _ w).step (Ae.of_below b1) (fun b hb hl=>by omega) |>.step (Ae.of_grown hg) (fun b hb hl=>h.rt b (Eq.symm hb))
 have k2:=Ai w2 rb 4 v2
 have k3:Ae (fun b=>o b=some 0\/b=rb) w (w2.setCell ⟨rb,4,none⟩ v2):=(k1.mono (fun b _ hb=>.inl hb)).step k2 (fun b hb _=>.inr hb)
 have hsz:=k3.size
 have hblk2:=k1.get h.blk (fun hs=>by rw[hrb]at hs;cases hs)
 have hob:∀b,b<w.heap.size->(if v2.ownBlock=some b then some 0 else o b)=o b:=by
  intro b hb
  split
  ·next e=>exact(Ze hn h.rt (by omega) e).symm
  ·rfl
 refine⟨⟨fun b=>if v2.ownBlock=some b then some 0 else o b,?_⟩,k3.mono (fun b _ hb=>by rcases hb with hb|rfl;exact .inr ⟨_,hb⟩;exact .inl rfl),by simp[World.cell?,hblk2,P9],by simp[World.frozen?,hblk2]⟩
 refine⟨?_,h.lo,Nat.le_trans h.top hsz,fun b hb=>?_,fun b hb=>?_,?_,fun b hb=>by rw[if_pos hb],fun i hi=>?_,?_⟩
 ·rw[Am _ hblk2]
  rfl
 ·rw[if_neg (fun e=>by have:=(ho.lt b e).2;have:=k2.size;omega)]
  exact h.fr b (by omega)
 ·rw[if_neg (fun e=>by have:=(ho.lt b e).1;omega)]
  exact h.ob b hb
 ·rw[List.length_append,List.length_singleton,List.flatMap_append,List.flatMap_singleton]
  exact ho.keep k2 (fun b hb hs=>by have:=(ho.lt b hb).1;have:=h.lo;have:b=rb:=hs;omega)
 ·rw[List.length_append,List.length_singleton]at hi
  by_cases him:i<Y.length
  ·rw[List.getElem_append_left him]
   refine(h.own i him).keep k3 (fun b hb hs i' hi' hh=>?_) hob
   rcases hs with hs|rfl
   ·rw[hs]at hh;injection hh with hh;omega
   ·rw[hrb]at hh;cases hh
  ·obtain rfl:i=Y.length:=by omega
   rw[List.getElem_concat_length rfl]
   intro j hj
   match j,hj with
   |0,_=>exact⟨⟨rfl,.inl ⟨rfl,rfl⟩⟩,fun b hb=>by cases hb⟩
   |1,_=>exact⟨⟨rfl,.inl ⟨rfl,rfl⟩⟩,fun b hb=>by cases hb⟩
   |2,_=>exact⟨⟨rfl,.inl ⟨rfl,rfl⟩⟩,fun b hb=>by cases hb⟩
   |3,_=>exact⟨⟨rfl,.inl ⟨rfl,rfl⟩⟩,fun b hb=>by cases hb⟩
   |4,_=>exact⟨⟨rfl,.inl ⟨rfl,rfl⟩⟩,fun b hb=>by cases hb⟩
 ·show C.ents++ [Mi name tol]=(Y++ [_]).map Aw.E
  rw[List.map_append,h.eq]
  rfl
theorem Tryz.infoEntR:(Tryz.prog.info? 50).map (fun i=>(i.zero,i.size,i.bytes))=some (some (.agg (A7 ⟨ByteArray.empty,0,[],0,0,0,[],[],[],[]⟩ (.slice none 0 0) (.slice none 0 0) (.slice none 0 0) (.slice none 0 0) (.slice none 0 0))),10,168):=by kernel_rfl
def G5(base rb:Nat)(o:Nat->Option Nat)(C':Al)(st:Int)(w w':World):Prop:=
 (∃o' v' Y',Ei base rb o' C' st v' Y' w')/\Ae (fun b=>b=rb\/∃t,o b=some t) w w'
theorem G5.drew{base rb:Nat}{o:Nat->Option Nat}{C':Al}{st:Int}{w w':World}(h:G5 base rb o C' st w w'):G5 base rb o C' st w w'.drew:=by
 obtain⟨⟨o',v',Y',h1⟩,h2⟩:=h
 exact⟨⟨o',v',Y',h1.later ((Below.refl _ _).drew)⟩,h2.drew⟩
theorem yP(base rb:Nat)(o:Nat->Option Nat)(C:Al)(v:Value)(Y:List Aw)(w:World)(h:Ei base rb o C 0 v Y w)(name:ByteArray)(nb noff ncap:Nat)(a b:Int)
  (n0:w.cell? ⟨nb,noff,none⟩=some (.int .i64 a)) (n1:w.cell? ⟨nb,noff+1,none⟩=some (.int .i64 b)) (hnb:¬nb=rb):
  Calls Tryz.prog 114 #[.pointer (some ⟨rb,0,none⟩),.int .i64 0,.string name,.slice (some ⟨nb,noff,none⟩) 2 ncap] w fun e w'=>e=.returned (.tuple #[])/\G5 base rb o (Bf 0 name [a,b] C) 0 w w':=by
 have hk:∀k u,Ae (fun b=>b=rb\/∃t,o b=some t) w (w.setCell ⟨rb,k,none⟩ u):=fun k u=>(Ai w rb k u).mono (fun b _ hb=>.inl hb)
 have F1:Hid (G5 base rb o (Bf 0 name [a,b] C) 0 w ((w.setCell ⟨rb,0,none⟩ (.int .i64 a)).setCell ⟨rb,1,none⟩ (.int .i64 b))):=
  (show G5 base rb o (Bf 0 name [a,b] C) 0 w ((w.setCell ⟨rb,0,none⟩ (.int .i64 a)).setCell ⟨rb,1,none⟩ (.int .i64 b))from
   ⟨⟨o,v,Y,(h.set (C':={ C with closed:=a}) (st':=0) 0 (.int .i64 a) rfl rfl).set (C':=Bf 0 name [a,b] C) (st':=0) 1 (.int .i64 b) rfl rfl⟩,(hk 0 (.int .i64 a)).setCell (p:=⟨rb,1,none⟩) (fun _=>.inl rfl) _⟩)
 have F2:Hid (G5 base rb o (Bf 0 name [a,b] C) 0 w ((w.setCell ⟨rb,1,none⟩ (.int .i64 b)).setCell ⟨rb,0,none⟩ (.int .i64 a))):=
  (show G5 base rb o (Bf 0 name [a,b] C) 0 w ((w.setCell ⟨rb,1,none⟩ (.int .i64 b)).setCell ⟨rb,0,none⟩ (.int .i64 a))from
   ⟨⟨o,v,Y,(h.set (C':={ C with opn:=b}) (st':=0) 1 (.int .i64 b) rfl rfl).set (C':=Bf 0 name [a,b] C) (st':=0) 0 (.int .i64 a) rfl rfl⟩,(hk 1 (.int .i64 b)).setCell (p:=⟨rb,0,none⟩) (fun _=>.inl rfl) _⟩)
 obtain⟨c0,c1,c2,c3,c4,c5,cf⟩:=Ek h.blk
 have hbn:¬rb=nb:=fun e=>hnb e.symm
 clear h hk
 go_enter func114,ntmps114
 go_wp2_with fail
 go_region
 all_goals
  go_wp2_with fail
  go_end0
  first
   |exact⟨rfl,F1.out⟩
   |exact⟨rfl,F2.out⟩
   |exact⟨rfl,F1.out.drew⟩
   |exact⟨rfl,F2.out.drew⟩
theorem yO(base rb:Nat)(o:Nat->Option Nat)(C:Al)(v:Value)(Y:List Aw)(w:World)(h:Ei base rb o C 1 v Y w)(name:ByteArray)(nb noff ncap:Nat)(a:Int)
  (n0:w.cell? ⟨nb,noff,none⟩=some (.int .i64 a)):
  Calls Tryz.prog 114 #[.pointer (some ⟨rb,0,none⟩),.int .i64 1,.string name,.slice (some ⟨nb,noff,none⟩) 1 ncap] w fun e w'=>e=.returned (.tuple #[])/\G5 base rb o (Bf 1 name [a] C) 1 w w':=by
 have F1:Hid (G5 base rb o (Bf 1 name [a] C) 1 w (w.setCell ⟨rb,2,none⟩ (.int .i64 a))):=
  (show G5 base rb o (Bf 1 name [a] C) 1 w (w.setCell ⟨rb,2,none⟩ (.int .i64 a))from
   ⟨⟨o,v,Y,h.set (C':=Bf 1 name [a] C) (st':=1) 2 (.int .i64 a) rfl rfl⟩,(Ai w rb 2 (.int .i64 a)).mono (fun b _ hb=>.inl hb)⟩)
 obtain⟨c0,c1,c2,c3,c4,c5,cf⟩:=Ek h.blk
 clear h
 go_enter func114,ntmps114
 go_wp2_with fail
 go_end0
 exact⟨rfl,F1.out⟩
theorem yN(base rb:Nat)(o:Nat->Option Nat)(C:Al)(v:Value)(Y:List Aw)(w:World)(h:Ei base rb o C 2 v Y w)(name:ByteArray)(nb noff ncap:Nat)(a:Int)
  (n0:w.cell? ⟨nb,noff,none⟩=some (.int .i64 a)):
  Calls Tryz.prog 114 #[.pointer (some ⟨rb,0,none⟩),.int .i64 2,.string name,.slice (some ⟨nb,noff,none⟩) 1 ncap] w fun e w'=>e=.returned (.tuple #[])/\G5 base rb o (Bf 2 name [a] C) 2 w w':=by
 have F1:Hid (G5 base rb o (Bf 2 name [a] C) 2 w (w.setCell ⟨rb,3,none⟩ (.int .i64 a))):=
  (show G5 base rb o (Bf 2 name [a] C) 2 w (w.setCell ⟨rb,3,none⟩ (.int .i64 a))from
   ⟨⟨o,v,Y,h.set (C':=Bf 2 name [a] C) (st':=2) 3 (.int .i64 a) rfl rfl⟩,(Ai w rb 3 (.int .i64 a)).mono (fun b _ hb=>.inl hb)⟩)
 obtain⟨c0,c1,c2,c3,c4,c5,cf⟩:=Ek h.blk
 clear h
 go_enter func114,ntmps114
 go_wp2_with fail
 go_end0
 exact⟨rfl,F1.out⟩
theorem yM(base rb:Nat)(o:Nat->Option Nat)(C:Al)(v:Value)(Y:List Aw)(w:World)(h:Ei base rb o C 3 v Y w)(hY:Y.length<=100000)(name:ByteArray)(nb noff ncap:Nat)(a:Int)
  (n0:w.cell? ⟨nb,noff,none⟩=some (.int .i64 a)) (hnb:nb<w.heap.size) (hon:o nb=none):
  Calls Tryz.prog 114 #[.pointer (some ⟨rb,0,none⟩),.int .i64 3,.string name,.slice (some ⟨nb,noff,none⟩) 1 ncap] w fun e w'=>e=.returned (.tuple #[])/\G5 base rb o (Bf 3 name [a] C) 3 w w':=by
 obtain⟨i0,hi0,hz0,hz1,hz2⟩:=info_parts infoEntR
 obtain⟨ao,cap,rfl⟩:=h.row.val
 have hrl:=Aa h.blk
 have horb:o rb=none:=h.ob rb h.lo
 have HOW:Hid (∀W,Below w.heap.size w W->As W base 50 10 (.slice ao Y.length cap) Y.length (Y.flatMap Aj)/\base<=W.heap.size):=(show _ from fun W hW=>⟨h.row.later hW,Nat.le_trans h.top hW.size⟩)
 obtain⟨c0,c1,c2,c3,c4,c5,cf⟩:=Ek h.blk
 have HC:Hid (∀W,Below w.heap.size w W->W.cell? ⟨rb,4,none⟩=some (.slice ao Y.length cap)/\W.cell? ⟨nb,noff,none⟩=some (.int .i64 a)):=(show _ from fun W hW=>⟨by rw[hW.cell (p:=⟨rb,4,none⟩) hrl];exact c4,by rw[hW.cell (p:=⟨nb,noff,none⟩) hnb];exact n0⟩)
 have HA:Hid (∀(w1 w2:World) (v2:Value),Below w.heap.size w w1->As w2 base 50 10 v2 (Y.length+1) (Y.flatMap Aj++Aj ⟨Mi name a,.slice none 0 0,.slice none 0 0,.slice none 0 0,.slice none 0 0,.slice none 0 0⟩)->w1.grownBy w2 (Value.slice ao Y.length cap).ownBlock->(v2.ownBlock=(Value.slice ao Y.length cap).ownBlock\/∀b,v2.ownBlock=some b->w1.heap.size<=b)->
   Hid (G5 base rb o (Bf 3 name [a] C) 3 w (w2.setCell ⟨rb,4,none⟩ v2))/\(w2.cell? ⟨rb,4,none⟩=some (.slice ao Y.length cap)/\w2.cell? ⟨nb,noff,none⟩=some (.int .i64 a))/\w2.frozen? ⟨rb,4,none⟩=false):=(show _ from by
  intro w1 w2 v2 b1 ho hg hn
  obtain⟨⟨o',hA⟩,hK,hc,hf⟩:=h.appE b1 name a ho hg hn
  refine⟨⟨⟨o',v2,_,hA⟩,hK⟩,⟨hc,?_⟩,hf⟩
  rw[(h.far b1 h.rt hg nb noff hnb hon).1]
  exact n0)
 have hYl:=hY
 clear h hY hon horb
 go_enter func114,ntmps114
 go_upto_region 23 with fail
 go_region_law (refine Bq rfl (.tmp 164) (.tmp 170) 28 rfl base 50 i0 _ 10 168 underlying28 hi0 hz0 hz1 hz2 rfl (by decide) (.slice ao Y.length cap) Y.length (Y.flatMap Aj) rfl ?_ ⟨w.heap.size,0,none⟩ 1 1 (Aj ⟨Mi name a,.slice none 0 0,.slice none 0 0,.slice none 0 0,.slice none 0 0,.slice none 0 0⟩) rfl rfl ?_ (by intro u hu;simp[Aj,A7]at hu;rcases hu with rfl|rfl|rfl|rfl|rfl|rfl|rfl|rfl|rfl|rfl<;>rfl) (by unfold maxLen;omega) (by omega) ?_ ?_;exact(HOW.out _ (by repeat(first|exact Below.refl _ _|refine Below.drew ?_|refine Below.alloc ?_ (by simp) _))).1;exact Av _ (Aj ⟨Mi name a,.slice none 0 0,.slice none 0 0,.slice none 0 0,.slice none 0 0,.slice none 0 0⟩) _;exact(HOW.out _ (by repeat(first|exact Below.refl _ _|refine Below.drew ?_|refine Below.alloc ?_ (by simp) _))).2;intro a1 k1 w6 ho6 hg6 hn6;have hfin:=HA.out _ w6 _ (by repeat(first|exact Below.refl _ _|refine Below.drew ?_|refine Below.alloc ?_ (by simp) _)) ho6 hg6 hn6)
 all_goals
  obtain⟨F1,⟨d4,_⟩,df⟩:=hfin
  clear ho6 hg6 hn6 c0 c1 c2 c3 c4 c5 cf
  go_wp2_with fail
  go_end0
  first
   |exact⟨rfl,F1.out⟩
   |exact⟨rfl,F1.out.drew⟩
theorem Ei.last{base rb:Nat}{o:Nat->Option Nat}{C:Al}{st:Int}{v:Value}{Z:List Aw}{y:Aw}{w:World}(h:Ei base rb o C st v (Z++ [y]) w):Lv base o (1+5*Z.length) y w:=by
 have:=h.own Z.length (by rw[List.length_append];simp)
 rw[List.getElem_concat_length rfl]at this
 exact this
theorem Om{C:Al}{Z:List Aw}{y:Aw}(h:C.ents=(Z++ [y]).map Aw.E):Bo C.ents=y.E/\C.ents.dropLast=Z.map Aw.E:=by
 rw[h,List.map_append,List.map_singleton,lastE_app',List.dropLast_concat]
 exact⟨rfl,rfl⟩
where lastE_app' {L:List Ap} {E:Ap}:Bo (L++ [E])=E:=by simp[Bo]
theorem Kp{C:Al}{Z:List Aw}{y y':Aw}(h:C.ents=(Z++ [y]).map Aw.E)(k:Nat)(hk:4<=k)(name:ByteArray)(n:List Int)(he:Bl k name n y.E=y'.E):(Bf k name n C).ents=(Z++ [y']).map Aw.E:=by
 obtain⟨h1,h2⟩:=Om h
 unfold Bf
 rw[if_neg (by omega),if_neg (by omega),if_neg (by omega),if_neg (by omega)]
 show C.ents.dropLast++ [Bl k name n (Bo C.ents)]=_
 rw[h1,h2,he,List.map_append]
 rfl
theorem Rx(C:Al)(k:Nat)(hk:3<=k)(name:ByteArray)(n:List Int)(v:Value)(st:Int):P9 (Bf k name n C) v st=P9 C v st:=by
 unfold Bf
 rw[if_neg (by omega),if_neg (by omega),if_neg (by omega)]
 split<;>rfl
theorem yL(base rb:Nat)(o:Nat->Option Nat)(C:Al)(v:Value)(Z:List Aw)(y:Aw)(w:World)(h:Ei base rb o C 4 v (Z++ [y]) w)(hZ:Z.length<=100000)(hn:y.E.points.length<=100000)(name:ByteArray)(nv:Value):
  Calls Tryz.prog 114 #[.pointer (some ⟨rb,0,none⟩),.int .i64 4,.string name,nv] w fun e w'=>e=.returned (.tuple #[])/\G5 base rb o (Bf 4 name [] C) 4 w w':=by
 obtain⟨i0,hi0,hz0,hz1,hz2⟩:=info_parts infoStr
 obtain⟨g,off,cap,rfl,⟨hc1,hc2⟩,hog,hbg,hgw,hgr,hcell⟩:=h.form
 have hrl:=Aa h.blk
 have hlast:=h.last
 obtain⟨hpo,hpt⟩:=hlast 0 (by decide)
 obtain⟨pa,pc,hpv⟩:=hpo.val
 have hpv:y.p=.slice pa y.E.points.length pc:=hpv
 have HOW:Hid (∀W,Below w.heap.size w W->As W base 9 1 (.slice pa y.E.points.length pc) y.E.points.length (Ad y.E.points)/\base<=W.heap.size):=(show _ from fun W hW=>⟨by rw[<-hpv];exact hpo.later hW,Nat.le_trans h.top hW.size⟩)
 obtain⟨c0,c1,c2,c3,c4,c5,cf⟩:=Ek h.blk
 have q2:=hcell 2 _ rfl
 rw[hpv,<-Nat.add_assoc]at q2
 have HA:Hid (∀(w1 w2:World) (ao:Option Addr) (cp:Nat),Below w.heap.size w w1->As w2 base 9 1 (.slice ao (y.E.points.length+1) cp) (y.E.points.length+1) (Ad y.E.points++ [.string name])->w1.grownBy w2 (Value.slice pa y.E.points.length pc).ownBlock->((Value.slice ao (y.E.points.length+1) cp).ownBlock=(Value.slice pa y.E.points.length pc).ownBlock\/∀b,(Value.slice ao (y.E.points.length+1) cp).ownBlock=some b->w1.heap.size<=b)->
   Hid (G5 base rb o (Bf 4 name [] C) 4 w (w2.setCell ⟨g,off+Z.length*10+2,none⟩ (.slice ao (y.E.points.length+1) cp)))/\w2.cell? ⟨g,off+Z.length*10+2,none⟩=some (.slice pa y.E.points.length pc)/\w2.frozen? ⟨g,off+Z.length*10+2,none⟩=false):=(show _ from by
  intro w1 w2 ao cp b1 ho hg hnn
  rw[<-hpv]at hg hnn ⊢
  have hE:=Kp (y':=⟨Bl 4 name [] y.E,.slice ao (y.E.points.length+1) cp,y.g,y.e,y.f,y.l⟩) h.eq 4 (by decide) name [] rfl
  obtain⟨⟨o',hA⟩,hK,hc,hf⟩:=h.appF (y':=⟨Bl 4 name [] y.E,.slice ao (y.E.points.length+1) cp,y.g,y.e,y.f,y.l⟩) (C':=Bf 4 name [] C) 0 (by decide) b1 ho hg hnn rfl rfl
   (fun i hi hne=>by
    match i,hi with
    |0,_=>exact absurd rfl hne
    |1,_=>exact⟨rfl,rfl,rfl⟩
    |2,_=>exact⟨rfl,rfl,rfl⟩
    |3,_=>exact⟨rfl,rfl,rfl⟩
    |4,_=>exact⟨rfl,rfl,rfl⟩
    )
   ⟨rfl,by show(y.E.points++ [name]).length=_;simp,by show Ad (y.E.points++ [name])=_;simp[Ad]⟩ (Rx C 4 (by decide) name _ _ 4) hE
  rw[show fO 0=2 from rfl,<-Nat.add_assoc]at hA hK hc hf
  exact⟨⟨⟨o',_,_,hA⟩,hK.mono (fun b _ hb=>.inr hb)⟩,hc,hf⟩)
 obtain⟨m,hm⟩:∃m,m=Z.length:=⟨_,rfl⟩
 obtain⟨np,hnp⟩:∃np,np=y.E.points.length:=⟨_,rfl⟩
 rw[<-hm]at hc1 HA q2 c4 hZ
 rw[<-hnp]at hn HOW HA q2
 clear h hlast hpo hpt hpv hcell hm hnp hog
 go_enter func114,ntmps114
 go_upto_region 2 with fail
 go_quiet (fail)
 go_wp2_with (at_builtin;go_must (refine A5 rfl (.tmp 32) (.tmp 34) 22 rfl base 9 i0 _ 1 16 underlying22 hi0 hz0 hz1 hz2 rfl (by decide) (.slice pa np pc) np (Ad y.E.points) rfl (HOW.out _ (by repeat(first|exact Below.refl _ _|refine Ag _ ?_|refine Below.drew ?_|refine Below.alloc ?_ (by simp) _))).1 ⟨w.heap.size,0,none⟩ 1 1 [.string name] rfl rfl (Av _ [.string name] _) (by intro u hu;simp at hu;subst hu;rfl) (by unfold maxLen;omega) (by omega) (HOW.out _ (by repeat(first|exact Below.refl _ _|refine Ag _ ?_|refine Below.drew ?_|refine Below.alloc ?_ (by simp) _))).2 ?_;intro a1 k1 w6 ho6 hg6 hn6;obtain⟨F1,d4,df⟩:=HA.out _ w6 _ _ (by repeat(first|exact Below.refl _ _|refine Ag _ ?_|refine Below.drew ?_|refine Below.alloc ?_ (by simp) _)) ho6 hg6 hn6;clear ho6 hg6 hn6))
 go_end0
 first
  |exact⟨rfl,F1.out⟩
  |exact⟨rfl,F1.out.drew⟩
theorem yH(base rb:Nat)(o:Nat->Option Nat)(C:Al)(v:Value)(Z:List Aw)(y:Aw)(w:World)(h:Ei base rb o C 8 v (Z++ [y]) w)(hZ:Z.length<=100000)(hn:y.E.first.length<=100000)(name:ByteArray)(nb noff ncap:Nat)(a:Int)(n0:w.cell? ⟨nb,noff,none⟩=some (.int .i64 a))(hnb:nb<w.heap.size)(hon:o nb=none):
  Calls Tryz.prog 114 #[.pointer (some ⟨rb,0,none⟩),.int .i64 8,.string name,.slice (some ⟨nb,noff,none⟩) 1 ncap] w fun e w'=>e=.returned (.tuple #[])/\G5 base rb o (Bf 8 name [a] C) 8 w w':=by
 obtain⟨i0,hi0,hz0,hz1,hz2⟩:=info_parts infoInt
 obtain⟨g,off,cap,rfl,⟨hc1,hc2⟩,hog,hbg,hgw,hgr,hcell⟩:=h.form
 have hrl:=Aa h.blk
 have hlast:=h.last
 obtain⟨hpo,hpt⟩:=hlast 3 (by decide)
 obtain⟨pa,pc,hpv⟩:=hpo.val
 have hpv:y.f=.slice pa y.E.first.length pc:=hpv
 have HOW:Hid (∀W,Below w.heap.size w W->As W base 3 1 (.slice pa y.E.first.length pc) y.E.first.length (Ac y.E.first)/\base<=W.heap.size):=(show _ from fun W hW=>⟨by rw[<-hpv];exact hpo.later hW,Nat.le_trans h.top hW.size⟩)
 obtain⟨c0,c1,c2,c3,c4,c5,cf⟩:=Ek h.blk
 have q2:=hcell 8 _ rfl
 rw[hpv,<-Nat.add_assoc]at q2
 have hgn:¬g=nb:=fun e=>by rw[e,hon]at hog;cases hog
 have hng:¬nb=g:=fun e=>hgn e.symm
 have hgs:¬g=w.heap.size:=by omega
 have hgs2:¬w.heap.size=g:=by omega
 have hns:¬nb=w.heap.size:=by omega
 have hns2:¬w.heap.size=nb:=by omega
 have HA:Hid (∀(w1 w2:World) (ao:Option Addr) (cp:Nat),Below w.heap.size w w1->As w2 base 3 1 (.slice ao (y.E.first.length+1) cp) (y.E.first.length+1) (Ac y.E.first++ [.int .i64 a])->w1.grownBy w2 (Value.slice pa y.E.first.length pc).ownBlock->((Value.slice ao (y.E.first.length+1) cp).ownBlock=(Value.slice pa y.E.first.length pc).ownBlock\/∀b,(Value.slice ao (y.E.first.length+1) cp).ownBlock=some b->w1.heap.size<=b)->
   Hid (G5 base rb o (Bf 8 name [a] C) 8 w (w2.setCell ⟨g,off+Z.length*10+8,none⟩ (.slice ao (y.E.first.length+1) cp)))/\w2.cell? ⟨g,off+Z.length*10+8,none⟩=some (.slice pa y.E.first.length pc)/\w2.frozen? ⟨g,off+Z.length*10+8,none⟩=false):=(show _ from by
  intro w1 w2 ao cp b1 ho hg hnn
  rw[<-hpv]at hg hnn ⊢
  have hE:=Kp (y':=⟨Bl 8 name [a] y.E,y.p,y.g,y.e,.slice ao (y.E.first.length+1) cp,y.l⟩) h.eq 8 (by decide) name [a] rfl
  obtain⟨⟨o',hA⟩,hK,hc,hf⟩:=h.appF (y':=⟨Bl 8 name [a] y.E,y.p,y.g,y.e,.slice ao (y.E.first.length+1) cp,y.l⟩) (C':=Bf 8 name [a] C) 3 (by decide) b1 ho hg hnn rfl rfl
   (fun i hi hne=>by
    match i,hi with
    |0,_=>exact⟨rfl,rfl,rfl⟩
    |1,_=>exact⟨rfl,rfl,rfl⟩
    |2,_=>exact⟨rfl,rfl,rfl⟩
    |3,_=>exact absurd rfl hne
    |4,_=>exact⟨rfl,rfl,rfl⟩
    )
   ⟨rfl,by show(y.E.first++ [a]).length=_;simp,by show Ac (y.E.first++ [a])=_;simp[Ac]⟩ (Rx C 8 (by decide) name _ _ 8) hE
  rw[show fO 3=8 from rfl,<-Nat.add_assoc]at hA hK hc hf
  exact⟨⟨⟨o',_,_,hA⟩,hK.mono (fun b _ hb=>.inr hb)⟩,hc,hf⟩)
 obtain⟨m,hm⟩:∃m,m=Z.length:=⟨_,rfl⟩
 obtain⟨np,hnp⟩:∃np,np=y.E.first.length:=⟨_,rfl⟩
 rw[<-hm]at hc1 HA q2 c4 hZ
 rw[<-hnp]at hn HOW HA q2
 clear h hlast hpo hpt hpv hcell hm hnp hog
 go_enter func114,ntmps114
 go_upto_region 2 with fail
 go_quiet (fail)
 generalize hq:World.drewN w _=wq
 have bq:Below w.heap.size w wq:=by rw[<-hq];exact Ag _ (Below.refl _ _)
 have hle:=bq.size
 have ec:∀p,wq.cell? p=w.cell? p:=fun p=>by rw[<-hq];rfl
 have hqs:wq.heap.size=w.heap.size:=by rw[<-hq];rfl
 rw[<-ec]at n0 q2
 rw[<-hqs]at hgs hgs2 hns hns2 hgw hnb
 clear hq ec hqs c0 c1 c2 c3 c4 c5 cf
 go_upto_region 13 with fail
 go_region_law (refine Bq rfl (.tmp 106) (.tmp 110) 48 rfl base 3 i0 _ 1 8 underlying48 hi0 hz0 hz1 hz2 rfl (by decide) (.slice pa np pc) np (Ac y.E.first) rfl ?_ ⟨wq.heap.size,0,none⟩ 1 1 [.int .i64 a] rfl rfl ?_ (by intro u hu;simp at hu;subst hu;rfl) (by unfold maxLen;omega) (by omega) ?_ ?_;exact(HOW.out _ (by repeat(first|exact bq|refine Below.drew ?_|refine Below.alloc ?_ hle _))).1;exact Av _ [.int .i64 a] _;exact(HOW.out _ (by repeat(first|exact bq|refine Below.drew ?_|refine Below.alloc ?_ hle _))).2;intro a1 k1 w6 ho6 hg6 hn6;obtain⟨F1,d4,df⟩:=HA.out _ w6 _ _ (by repeat(first|exact bq|refine Below.drew ?_|refine Below.alloc ?_ hle _)) ho6 hg6 hn6;clear ho6 hg6 hn6)
 all_goals
  go_wp2_with fail
  go_end0
  first
   |exact⟨rfl,F1.out⟩
   |exact⟨rfl,F1.out.drew⟩
theorem yG(base rb:Nat)(o:Nat->Option Nat)(C:Al)(v:Value)(Z:List Aw)(y:Aw)(w:World)(h:Ei base rb o C 9 v (Z++ [y]) w)(hZ:Z.length<=100000)(hn:y.E.last.length<=100000)(name:ByteArray)(nb noff ncap:Nat)(a:Int)(n0:w.cell? ⟨nb,noff,none⟩=some (.int .i64 a))(hnb:nb<w.heap.size)(hon:o nb=none):
  Calls Tryz.prog 114 #[.pointer (some ⟨rb,0,none⟩),.int .i64 9,.string name,.slice (some ⟨nb,noff,none⟩) 1 ncap] w fun e w'=>e=.returned (.tuple #[])/\G5 base rb o (Bf 9 name [a] C) 9 w w':=by
 obtain⟨i0,hi0,hz0,hz1,hz2⟩:=info_parts infoInt
 obtain⟨g,off,cap,rfl,⟨hc1,hc2⟩,hog,hbg,hgw,hgr,hcell⟩:=h.form
 have hrl:=Aa h.blk
 have hlast:=h.last
 obtain⟨hpo,hpt⟩:=hlast 4 (by decide)
 obtain⟨pa,pc,hpv⟩:=hpo.val
 have hpv:y.l=.slice pa y.E.last.length pc:=hpv
 have HOW:Hid (∀W,Below w.heap.size w W->As W base 3 1 (.slice pa y.E.last.length pc) y.E.last.length (Ac y.E.last)/\base<=W.heap.size):=(show _ from fun W hW=>⟨by rw[<-hpv];exact hpo.later hW,Nat.le_trans h.top hW.size⟩)
 obtain⟨c0,c1,c2,c3,c4,c5,cf⟩:=Ek h.blk
 have q2:=hcell 9 _ rfl
 rw[hpv,<-Nat.add_assoc]at q2
 have hgn:¬g=nb:=fun e=>by rw[e,hon]at hog;cases hog
 have hng:¬nb=g:=fun e=>hgn e.symm
 have hgs:¬g=w.heap.size:=by omega
 have hgs2:¬w.heap.size=g:=by omega
 have hns:¬nb=w.heap.size:=by omega
 have hns2:¬w.heap.size=nb:=by omega
 have HA:Hid (∀(w1 w2:World) (ao:Option Addr) (cp:Nat),Below w.heap.size w w1->As w2 base 3 1 (.slice ao (y.E.last.length+1) cp) (y.E.last.length+1) (Ac y.E.last++ [.int .i64 a])->w1.grownBy w2 (Value.slice pa y.E.last.length pc).ownBlock->((Value.slice ao (y.E.last.length+1) cp).ownBlock=(Value.slice pa y.E.last.length pc).ownBlock\/∀b,(Value.slice ao (y.E.last.length+1) cp).ownBlock=some b->w1.heap.size<=b)->
   Hid (G5 base rb o (Bf 9 name [a] C) 9 w (w2.setCell ⟨g,off+Z.length*10+9,none⟩ (.slice ao (y.E.last.length+1) cp)))/\w2.cell? ⟨g,off+Z.length*10+9,none⟩=some (.slice pa y.E.last.length pc)/\w2.frozen? ⟨g,off+Z.length*10+9,none⟩=false):=(show _ from by
  intro w1 w2 ao cp b1 ho hg hnn
  rw[<-hpv]at hg hnn ⊢
  have hE:=Kp (y':=⟨Bl 9 name [a] y.E,y.p,y.g,y.e,y.f,.slice ao (y.E.last.length+1) cp⟩) h.eq 9 (by decide) name [a] rfl
  obtain⟨⟨o',hA⟩,hK,hc,hf⟩:=h.appF (y':=⟨Bl 9 name [a] y.E,y.p,y.g,y.e,y.f,.slice ao (y.E.last.length+1) cp⟩) (C':=Bf 9 name [a] C) 4 (by decide) b1 ho hg hnn rfl rfl
   (fun i hi hne=>by
    match i,hi with
    |0,_=>exact⟨rfl,rfl,rfl⟩
    |1,_=>exact⟨rfl,rfl,rfl⟩
    |2,_=>exact⟨rfl,rfl,rfl⟩
    |3,_=>exact⟨rfl,rfl,rfl⟩
    |4,_=>exact absurd rfl hne
    )
   ⟨rfl,by show(y.E.last++ [a]).length=_;simp,by show Ac (y.E.last++ [a])=_;simp[Ac]⟩ (Rx C 9 (by decide) name _ _ 9) hE
  rw[show fO 4=9 from rfl,<-Nat.add_assoc]at hA hK hc hf
  exact⟨⟨⟨o',_,_,hA⟩,hK.mono (fun b _ hb=>.inr hb)⟩,hc,hf⟩)
 obtain⟨m,hm⟩:∃m,m=Z.length:=⟨_,rfl⟩
 obtain⟨np,hnp⟩:∃np,np=y.E.last.length:=⟨_,rfl⟩
 rw[<-hm]at hc1 HA q2 c4 hZ
 rw[<-hnp]at hn HOW HA q2
 clear h hlast hpo hpt hpv hcell hm hnp hog
 go_enter func114,ntmps114
 go_upto_region 2 with fail
 go_quiet (fail)
 generalize hq:World.drewN w _=wq
 have bq:Below w.heap.size w wq:=by rw[<-hq];exact Ag _ (Below.refl _ _)
 have hle:=bq.size
 have ec:∀p,wq.cell? p=w.cell? p:=fun p=>by rw[<-hq];rfl
 have hqs:wq.heap.size=w.heap.size:=by rw[<-hq];rfl
 rw[<-ec]at n0 q2
 rw[<-hqs]at hgs hgs2 hns hns2 hgw hnb
 clear hq ec hqs c0 c1 c2 c3 c4 c5 cf
 go_upto_region 15 with fail
 go_region_law (refine Bq rfl (.tmp 120) (.tmp 124) 48 rfl base 3 i0 _ 1 8 underlying48 hi0 hz0 hz1 hz2 rfl (by decide) (.slice pa np pc) np (Ac y.E.last) rfl ?_ ⟨wq.heap.size,0,none⟩ 1 1 [.int .i64 a] rfl rfl ?_ (by intro u hu;simp at hu;subst hu;rfl) (by unfold maxLen;omega) (by omega) ?_ ?_;exact(HOW.out _ (by repeat(first|exact bq|refine Below.drew ?_|refine Below.alloc ?_ hle _))).1;exact Av _ [.int .i64 a] _;exact(HOW.out _ (by repeat(first|exact bq|refine Below.drew ?_|refine Below.alloc ?_ hle _))).2;intro a1 k1 w6 ho6 hg6 hn6;obtain⟨F1,d4,df⟩:=HA.out _ w6 _ _ (by repeat(first|exact bq|refine Below.drew ?_|refine Below.alloc ?_ hle _)) ho6 hg6 hn6;clear ho6 hg6 hn6)
 all_goals
  go_wp2_with fail
  go_end0
  first
   |exact⟨rfl,F1.out⟩
   |exact⟨rfl,F1.out.drew⟩
theorem yI(base rb:Nat)(o:Nat->Option Nat)(C:Al)(v:Value)(Z:List Aw)(y:Aw)(w:World)(h:Ei base rb o C 7 v (Z++ [y]) w)(hZ:Z.length<=100000)(hn:y.E.edges.length<=100000)(name:ByteArray)(nb noff ncap:Nat)(a b:Int)(n0:w.cell? ⟨nb,noff,none⟩=some (.int .i64 a))(n1:w.cell? ⟨nb,noff+1,none⟩=some (.int .i64 b))(hnb:nb<w.heap.size)(hon:o nb=none):
  Calls Tryz.prog 114 #[.pointer (some ⟨rb,0,none⟩),.int .i64 7,.string name,.slice (some ⟨nb,noff,none⟩) 2 ncap] w fun e w'=>e=.returned (.tuple #[])/\G5 base rb o (Bf 7 name [a,b] C) 7 w w':=by
 obtain⟨i0,hi0,hz0,hz1,hz2⟩:=info_parts infoEdge
 obtain⟨g,off,cap,rfl,⟨hc1,hc2⟩,hog,hbg,hgw,hgr,hcell⟩:=h.form
 have hrl:=Aa h.blk
 have hlast:=h.last
 obtain⟨hpo,hpt⟩:=hlast 2 (by decide)
 obtain⟨pa,pc,hpv⟩:=hpo.val
 have hpv:y.e=.slice pa y.E.edges.length pc:=hpv
 have HOW:Hid (∀W,Below w.heap.size w W->As W base 127 2 (.slice pa y.E.edges.length pc) y.E.edges.length (y.E.edges.flatMap Cd)/\base<=W.heap.size):=(show _ from fun W hW=>⟨by rw[<-hpv];exact hpo.later hW,Nat.le_trans h.top hW.size⟩)
 obtain⟨c0,c1,c2,c3,c4,c5,cf⟩:=Ek h.blk
 have q2:=hcell 7 _ rfl
 rw[hpv,<-Nat.add_assoc]at q2
 have hgn:¬g=nb:=fun e=>by rw[e,hon]at hog;cases hog
 have hng:¬nb=g:=fun e=>hgn e.symm
 have hgs:¬g=w.heap.size:=by omega
 have hgs2:¬w.heap.size=g:=by omega
 have hns:¬nb=w.heap.size:=by omega
 have hns2:¬w.heap.size=nb:=by omega
 have HA:Hid (∀(w1 w2:World) (ao:Option Addr) (cp:Nat),Below w.heap.size w w1->As w2 base 127 2 (.slice ao (y.E.edges.length+1) cp) (y.E.edges.length+1) (y.E.edges.flatMap Cd++ [.int .i64 a,.int .i64 b])->w1.grownBy w2 (Value.slice pa y.E.edges.length pc).ownBlock->((Value.slice ao (y.E.edges.length+1) cp).ownBlock=(Value.slice pa y.E.edges.length pc).ownBlock\/∀b,(Value.slice ao (y.E.edges.length+1) cp).ownBlock=some b->w1.heap.size<=b)->
   Hid (G5 base rb o (Bf 7 name [a,b] C) 7 w (w2.setCell ⟨g,off+Z.length*10+7,none⟩ (.slice ao (y.E.edges.length+1) cp)))/\w2.cell? ⟨g,off+Z.length*10+7,none⟩=some (.slice pa y.E.edges.length pc)/\w2.frozen? ⟨g,off+Z.length*10+7,none⟩=false):=(show _ from by
  intro w1 w2 ao cp b1 ho hg hnn
  rw[<-hpv]at hg hnn ⊢
  have hE:=Kp (y':=⟨Bl 7 name [a,b] y.E,y.p,y.g,.slice ao (y.E.edges.length+1) cp,y.f,y.l⟩) h.eq 7 (by decide) name [a,b] rfl
  obtain⟨⟨o',hA⟩,hK,hc,hf⟩:=h.appF (y':=⟨Bl 7 name [a,b] y.E,y.p,y.g,.slice ao (y.E.edges.length+1) cp,y.f,y.l⟩) (C':=Bf 7 name [a,b] C) 2 (by decide) b1 ho hg hnn rfl rfl
   (fun i hi hne=>by
    match i,hi with
    |0,_=>exact⟨rfl,rfl,rfl⟩
    |1,_=>exact⟨rfl,rfl,rfl⟩
    |2,_=>exact absurd rfl hne
    |3,_=>exact⟨rfl,rfl,rfl⟩
    |4,_=>exact⟨rfl,rfl,rfl⟩
    )
   ⟨rfl,by show(y.E.edges++ [(a,b)]).length=_;simp,by show(y.E.edges++ [(a,b)]).flatMap Cd=_;simp[Cd]⟩ (Rx C 7 (by decide) name _ _ 7) hE
  rw[show fO 2=7 from rfl,<-Nat.add_assoc]at hA hK hc hf
  exact⟨⟨⟨o',_,_,hA⟩,hK.mono (fun b _ hb=>.inr hb)⟩,hc,hf⟩)
 obtain⟨m,hm⟩:∃m,m=Z.length:=⟨_,rfl⟩
 obtain⟨np,hnp⟩:∃np,np=y.E.edges.length:=⟨_,rfl⟩
 rw[<-hm]at hc1 HA q2 c4 hZ
 rw[<-hnp]at hn HOW HA q2
 clear h hlast hpo hpt hpv hcell hm hnp hog
 go_enter func114,ntmps114
 go_upto_region 2 with fail
 go_quiet (fail)
 generalize hq:World.drewN w _=wq
 have bq:Below w.heap.size w wq:=by rw[<-hq];exact Ag _ (Below.refl _ _)
 have hle:=bq.size
 have ec:∀p,wq.cell? p=w.cell? p:=fun p=>by rw[<-hq];rfl
 have hqs:wq.heap.size=w.heap.size:=by rw[<-hq];rfl
 rw[<-ec]at n0 n1 q2
 rw[<-hqs]at hgs hgs2 hns hns2 hgw hnb
 clear hq ec hqs c0 c1 c2 c3 c4 c5 cf
 go_upto_region 11 with fail
 go_region_law (refine Bq rfl (.tmp 88) (.tmp 96) 47 rfl base 127 i0 _ 2 16 underlying47 hi0 hz0 hz1 hz2 rfl (by decide) (.slice pa np pc) np (y.E.edges.flatMap Cd) rfl ?_ ⟨wq.heap.size,0,none⟩ 1 1 [.int .i64 a,.int .i64 b] rfl rfl ?_ (by intro u hu;simp at hu;rcases hu with rfl|rfl<;>rfl) (by unfold maxLen;omega) (by omega) ?_ ?_;exact(HOW.out _ (by repeat(first|exact bq|refine Below.drew ?_|refine Below.alloc ?_ hle _))).1;exact Av _ [.int .i64 a,.int .i64 b] _;exact(HOW.out _ (by repeat(first|exact bq|refine Below.drew ?_|refine Below.alloc ?_ hle _))).2;intro a1 k1 w6 ho6 hg6 hn6;obtain⟨F1,d4,df⟩:=HA.out _ w6 _ _ (by repeat(first|exact bq|refine Below.drew ?_|refine Below.alloc ?_ hle _)) ho6 hg6 hn6;clear ho6 hg6 hn6)
 all_goals
  go_wp2_with fail
  go_end0
  first
   |exact⟨rfl,F1.out⟩
   |exact⟨rfl,F1.out.drew⟩
end Go.Proofs.YtikehilbmldadaaGreatDoor
