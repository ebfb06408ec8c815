import Derived.Test.YtikehilbmldadaaGreatDoorV07
import Derived.Shelf.Abstract
import Derived.Test.YtikehilbmldadaaGreatDoorV13
set_option maxHeartbeats 4000000
set_option maxRecDepth 100000
set_option linter.unusedVariables false
open Go.Proofs.Tryz Go.Proofs.YtikehilbmldadaaGreatDoor.Tryz
namespace Go.Proofs.YtikehilbmldadaaGreatDoor
section
open Go.RowKit
def zr:Ar:=⟨0,0,0,0⟩
def sq(l:List Ar)(k:Nat):Nat:=(l.getD k zr).seq
def swp(l:List Ar)(j:Nat):List Ar:=(l.set j (l.getD (j-1) zr)).set (j-1) (l.getD j zr)
theorem rV(l:List Ar)(j:Nat):(swp l j).length=l.length:=by simp[swp]
theorem S7{l:List Ar}{k:Nat}(h:k<l.length):sq l k=l[k].seq:=by
 unfold sq;rw[List.getD_eq_getElem?_getD,List.getElem?_eq_getElem h];rfl
theorem Mn{l:List Ar}{k:Nat}(h:k<l.length):l.getD k zr=l[k]:=by
 rw[List.getD_eq_getElem?_getD,List.getElem?_eq_getElem h];rfl
theorem Ace{l:List Ar}{j:Nat}(h0:0<j)(h:j<l.length):(swp l j).Perm l:=by
 unfold swp
 rw[Mn h,Mn (show j-1<l.length by omega)]
 exact List.set_set_perm h (by omega)
theorem Yz{l:List Ar}{j:Nat}(h0:0<j)(h:j<l.length)(k:Nat):sq (swp l j) k=if k=j then sq l (j-1) else if k=j-1 then sq l j else sq l k:=by
 unfold sq swp
 simp only[List.getD_eq_getElem?_getD,List.getElem?_set,List.length_set]
 by_cases e1:k=j
 ·subst e1
  rw[if_neg (by omega),if_pos rfl,if_pos h]
  simp
 ·by_cases e2:k=j-1
  ·subst e2
   rw[if_pos rfl,if_pos (by omega),if_neg (by omega),if_pos rfl]
   simp
  ·rw[if_neg (fun h=>e2 h.symm),if_neg (fun h=>e1 h.symm),if_neg e1,if_neg e2]
structure xF (l:List Ar) (i j:Nat):Prop where
 pre:∀a b,a<b->b<=i->a≠j->b≠j->sq l a<=sq l b
 up:∀b,j<b->b<=i->sq l j<=sq l b
def I3(l:List Ar)(i:Nat):Prop:=∀a b,a<b->b<i->sq l a<=sq l b
theorem vJ{l:List Ar}{i:Nat}(h:I3 l i):xF l i i:=⟨fun a b hab hb ha hbi=>h a b hab (by omega),fun b h1 h2=>by omega⟩
theorem pS{l:List Ar}{i j:Nat}(h:xF l i j)(hj:j<=i)(h0:j=0\/sq l (j-1)<=sq l j):I3 l (i+1):=by
 intro a b hab hb
 by_cases e1:a=j
 ·subst e1;exact h.up b hab (by omega)
 ·by_cases e2:b=j
  ·subst e2
   rcases h0 with h0|h0
   ·omega
   ·by_cases e3:a=b-1
    ·subst e3;exact h0
    ·exact Nat.le_trans (h.pre a (b-1) (by omega) (by omega) e1 (by omega)) h0
  ·exact h.pre a b hab (by omega) e1 e2
theorem Aa7{l:List Ar}{i j:Nat}(h:xF l i j)(h0:0<j)(hj:j<=i)(hl:j<l.length)(hlt:sq l j<sq l (j-1)):xF (swp l j) i (j-1):=by
 constructor
 ·intro a b hab hb ha hbj
  rw[Yz h0 hl,Yz h0 hl]
  by_cases e1:a=j
  ·subst e1
   rw[if_pos rfl,if_neg (by omega),if_neg hbj]
   exact h.pre _ _ (by omega) hb (by omega) (by omega)
  ·rw[if_neg e1,if_neg ha]
   by_cases e2:b=j
   ·subst e2
    rw[if_pos rfl]
    exact h.pre _ _ (by omega) (by omega) e1 (by omega)
   ·rw[if_neg e2,if_neg hbj]
    exact h.pre _ _ hab hb e1 e2
 ·intro b h1 h2
  rw[Yz h0 hl,Yz h0 hl,if_neg (by omega),if_pos rfl]
  by_cases e2:b=j
  ·subst e2
   rw[if_pos rfl];omega
  ·rw[if_neg e2,if_neg (by omega)]
   exact h.up b (by omega) h2
def Mu(w:World)(g:Nat)(l:List Ar):Prop:=∃C t,w.heap[g]? =some (.cells C t (0,0))/\l.length*4<=C.size/\∀k (hk:k<l.length),C[k*4]? =some (.int .i64 l[k].seq)/\C[k*4+1]? =some (.int .i64 l[k].ent)/\C[k*4+2]? =some (.int .i64 l[k].kind)/\C[k*4+3]? =some (.int .i64 l[k].tick)
theorem Mu.cells{w:World}{g:Nat}{l:List Ar}(h:Mu w g l)(k:Nat)(hk:k<l.length):
  w.cell? ⟨g,k*4,none⟩=some (.int .i64 (l.getD k zr).seq)/\w.cell? ⟨g,k*4+1,none⟩=some (.int .i64 (l.getD k zr).ent)/\w.cell? ⟨g,k*4+2,none⟩=some (.int .i64 (l.getD k zr).kind)/\w.cell? ⟨g,k*4+3,none⟩=some (.int .i64 (l.getD k zr).tick):=by
 obtain⟨C,t,h1,h2,h3⟩:=h
 obtain⟨q0,q1,q2,q3⟩:=h3 k hk
 rw[Mn hk]
 simp[World.cell?,h1,q0,q1,q2,q3]
theorem Mu.free{w:World}{g:Nat}{l:List Ar}(h:Mu w g l)(o:Nat):w.frozen? ⟨g,o,none⟩=false:=by
 obtain⟨C,t,h1,h2,h3⟩:=h
 simp[World.frozen?,h1]
theorem Mu.set4{w:World}{g:Nat}{l:List Ar}(h:Mu w g l)(j:Nat)(hj:j<l.length)(r:Ar):
  Mu ((((w.setCell ⟨g,j*4,none⟩ (.int .i64 r.seq)).setCell ⟨g,j*4+1,none⟩ (.int .i64 r.ent)).setCell ⟨g,j*4+2,none⟩ (.int .i64 r.kind)).setCell ⟨g,j*4+3,none⟩ (.int .i64 r.tick)) g (l.set j r):=by
 obtain⟨C,t,h1,h2,h3⟩:=h
 refine⟨_,t,Am _ (Am _ (Am _ (Am _ h1))),by simpa using h2,fun k hk=>?_⟩
 simp only[List.length_set]at hk
 obtain⟨q0,q1,q2,q3⟩:=h3 k hk
 by_cases e:k=j
 ·subst e
  have s0:k*4<C.size:=by omega
  have s1:k*4+1<C.size:=by omega
  have s2:k*4+2<C.size:=by omega
  have s3:k*4+3<C.size:=by omega
  simp[s0,s1,s2,s3]
 ·have n:∀a b:Nat,a<4->b<4->¬j*4+a=k*4+b:=by omega
  have n0:=fun b hb=>n 0 b (by omega) hb
  simp only[Nat.add_zero]at n0
  have m0:∀a:Nat,a<4->¬j*4+a=k*4:=fun a ha=>by have:=n a 0 ha (by omega);omega
  have z0:¬j*4=k*4:=by omega
  rw[List.getElem_set_ne (fun h=>e h.symm)]
  simp[n,n0,m0,z0,q0,q1,q2,q3]
theorem xA(a b:Ar)(ha:a.seq<4294967296)(hb:b.seq<4294967296)(w:World):Calls Tryz.prog 186 #[A3 a,A3 b] w fun e w'=>e=.returned (.int .i64 ((a.seq:Int)-b.seq))/\Below w.heap.size w w':=by
 have ha2:(a.seq:Int)<4294967296:=by omega
 have hb2:(b.seq:Int)<4294967296:=by omega
 unfold A3
 go_enter func186,ntmps186
 go_wp2_with fail
 go_ret
 exact⟨rfl,((Below.refl _ _).alloc (Nat.le_refl _) _).alloc (by simp) _⟩
def Sw:Value:=.func (.func 186) #[] #[]
structure I4 (g:Nat) (l0 l:List Ar) (w0 w:World):Prop where
 perm:l.Perm l0
 row:Mu w g l
 kp:Ae (· =g) w0 w
theorem I4.len{g:Nat}{l0 l:List Ar}{w0 w:World}(h:I4 g l0 l w0 w):l.length=l0.length:=h.perm.length_eq
theorem I4.below{g:Nat}{l0 l:List Ar}{w0 w w':World}(h:I4 g l0 l w0 w)(b:Below w.heap.size w w'):I4 g l0 l w0 w':=by
 obtain⟨C,t,h1,h2,h3⟩:=h.row
 exact⟨h.perm,⟨C,t,Af b h1 (Aa h1),h2,h3⟩,h.kp.trans ((Ak b).mono (fun _ _ h=>h.elim))⟩
theorem Vl(w:World)(g o:Nat)(a b c d:Value):Ae (· =g) w ((((w.setCell ⟨g,o,none⟩ a).setCell ⟨g,o+1,none⟩ b).setCell ⟨g,o+2,none⟩ c).setCell ⟨g,o+3,none⟩ d):=
 ((Gi (Gi (Ai w g o a) (o+1) b) (o+2) c)).trans (Ai _ g (o+3) d)
theorem I4.drewN{g:Nat}{l0 l:List Ar}{w0 w:World}(h:I4 g l0 l w0 w)(n:Nat):I4 g l0 l w0 (w.drewN n):=⟨h.perm,h.row,Dq n h.kp⟩
theorem I4.drew{g:Nat}{l0 l:List Ar}{w0 w:World}(h:I4 g l0 l w0 w):I4 g l0 l w0 w.drew:=⟨h.perm,h.row,h.kp.drew⟩
theorem Aa6{g:Nat}{l0 l:List Ar}{w0 wc:World}{J:Nat}{rj rJ:Ar}(h:I4 g l0 l w0 wc)(hj:J+1<l.length)(e1:rj=l.getD (J+1) zr)(e2:rJ=l.getD J zr):
  I4 g l0 (swp l (J+1)) w0 ((((((((wc.setCell ⟨g,(J+1)*4,none⟩ (.int .i64 rJ.seq)).setCell ⟨g,(J+1)*4+1,none⟩ (.int .i64 rJ.ent)).setCell ⟨g,(J+1)*4+2,none⟩ (.int .i64 rJ.kind)).setCell ⟨g,(J+1)*4+3,none⟩ (.int .i64 rJ.tick)).setCell ⟨g,J*4,none⟩ (.int .i64 rj.seq)).setCell ⟨g,J*4+1,none⟩ (.int .i64 rj.ent)).setCell ⟨g,J*4+2,none⟩ (.int .i64 rj.kind)).setCell ⟨g,J*4+3,none⟩ (.int .i64 rj.tick)).drew:=by
 have r1:=h.row.set4 (J+1) hj rJ
 have r2:=r1.set4 J (by rw[List.length_set];omega) rj
 have es:(l.set (J+1) rJ).set J rj=swp l (J+1):=by rw[e1,e2];rfl
 rw[es]at r2
 have k1:=Vl wc g ((J+1)*4) (.int .i64 rJ.seq) (.int .i64 rJ.ent) (.int .i64 rJ.kind) (.int .i64 rJ.tick)
 have k2:=Vl ((((wc.setCell ⟨g,(J+1)*4,none⟩ (.int .i64 rJ.seq)).setCell ⟨g,(J+1)*4+1,none⟩ (.int .i64 rJ.ent)).setCell ⟨g,(J+1)*4+2,none⟩ (.int .i64 rJ.kind)).setCell ⟨g,(J+1)*4+3,none⟩ (.int .i64 rJ.tick)) g (J*4) (.int .i64 rj.seq) (.int .i64 rj.ent) (.int .i64 rj.kind) (.int .i64 rj.tick)
 have p:=(Ace (l:=l) (j:=J+1) (Nat.succ_pos J) hj).trans h.perm
 exact I4.drew ⟨p,r2,(h.kp.trans k1).trans k2⟩
theorem vI{l:List Ar}{i J:Nat}{rj rJ:Ar}(h:xF l i (J+1))(hj:J+1<=i)(hl:J+1<l.length)(e1:rj=l.getD (J+1) zr)(e2:rJ=l.getD J zr)(hlt:(rj.seq:Int)-rJ.seq<0):xF (swp l (J+1)) i J:=by
 have:=Aa7 h (Nat.succ_pos J) hj hl (by
  show sq l (J+1)<sq l J
  unfold sq
  rw[<-e1,<-e2];omega)
 exact this
theorem pR(w:World)(g cap:Nat)(l0:List Ar)(hr:Mu w g l0)(hs:∀r∈l0,r.seq<4294967296)(hn:l0.length<=100):
  Calls Tryz.prog 263 #[.slice (some ⟨g,0,none⟩) l0.length cap,.int .i64 0,.int .i64 l0.length,Sw] w fun e w'=>e=.returned (.tuple #[])/\∃l,I3 l l0.length/\I4 g l0 l w w':=by
 have eg:∀args w,(callFunc 186 args).run Tryz.prog w=.ok (.enter 186 args) w:=enters_of func186 (by kernel_rfl) rfl
 have HS:=Aia hs
 have H0:Hid (I4 g l0 l0 w w):=Aia (⟨List.Perm.refl _,hr,Ae.refl _ _⟩)
 clear hs hr
 unfold Sw
 go_enter func263,ntmps263
 go_wp2_with fail
 go_loopw [8] (fun s8 wr=>∃(i:Nat) (l:List Ar),1<=i/\i<=l0.length+1/\s8=.int .i64 i/\Hid (I4 g l0 l w wr)/\Hid (I3 l i)/\Hid (l.length=l0.length)) (fun s8 _=>l0.length+1-(intOf s8).toNat)
 case atStart=>exact⟨1,l0,Nat.le_refl _,by omega,rfl,H0,fun a b h1 h2=>by omega,rfl⟩
 case round=>
  obtain⟨i,l,hi1,hi2,rfl,hI,hso,hlen⟩:=hrel
  clear H0
  by_cases hlt:i<l0.length
  ·go_wp2_with fail
   go_loopw [9] (fun s9 wm=>∃(j:Nat) (l:List Ar),j<=i/\s9=.int .i64 j/\Hid (I4 g l0 l w wm)/\Hid (xF l i j)/\Hid (l.length=l0.length)) (fun s9 _=>(intOf s9).toNat)
   case atStart=>exact⟨i,l,Nat.le_refl _,rfl,hI,vJ hso.out,hlen⟩
   case round=>
    obtain⟨j,l,hj,rfl,hI,hJ,hlen⟩:=hrel
    by_cases h0:j=0
    ·have hd:decide ((0:Int)<(j:Int))=false:=decide_eq_false (by omega)
     have hd2:decide (0<j)=false:=decide_eq_false (by omega)
     have hso:=Aia (pS hJ.out hj (.inl h0))
     clear h0
     go_wp2_with fail
     go_quiet (fail)
     have hI2:=Aia (hI.out.drewN nq)
     go_wp2_with fail
     go_roundw
     case rel=>exact⟨i+1,l,by omega,by omega,by go_num,hI2,hso,hlen⟩
     case measure=>simp[intOf];omega
    ·obtain⟨J,rfl⟩:∃J,j=J+1:=⟨j-1,by omega⟩
     have hjn:J+1<l.length:=by have:=hlen.out;omega
     obtain⟨q0,q1,q2,q3⟩:=hI.out.row.cells (J+1) hjn
     obtain⟨p0,p1,p2,p3⟩:=hI.out.row.cells J (by omega)
     have hmj:(l.getD (J+1) zr).seq<4294967296:=by rw[Mn hjn];exact HS.out _ (hI.out.perm.subset (List.getElem_mem _))
     have hmJ:(l.getD J zr).seq<4294967296:=by rw[Mn (show J<l.length by omega)];exact HS.out _ (hI.out.perm.subset (List.getElem_mem _))
     obtain⟨rj,hrj⟩:∃r,r=l.getD (J+1) zr:=⟨_,rfl⟩
     obtain⟨rJ,hrJ⟩:∃r,r=l.getD J zr:=⟨_,rfl⟩
     rw[<-hrj]at q0 q1 q2 q3 hmj
     rw[<-hrJ]at p0 p1 p2 p3 hmJ
     have HRj:=Aia hrj
     have HRJ:=Aia hrJ
     have HJN:=Aia hjn
     have qf:=hI.out.row.free
     have hb3:J+1<l0.length:=by omega
     have hb4:J<l0.length:=by omega
     have hb1:(J:Int)+1<(l0.length:Int):=by omega
     have hb2:(J:Int)<(l0.length:Int):=by omega
     have hw1:IntKind.i64.wrap (J:Int)=(J:Int):=IntWalk.i64_in _ (by omega)
     have hw2:IntKind.i64.wrap ((rj.seq:Int)-rJ.seq)=(rj.seq:Int)-rJ.seq:=IntWalk.i64_in _ (by omega)
     have HC:Hid (∀W,I4 g l0 l w W->Calls Tryz.prog 186 #[A3 rj,A3 rJ] W fun e w'=>e=.returned (.int .i64 ((rj.seq:Int)-rJ.seq))/\I4 g l0 l w w'/\∀o,w'.cell? ⟨g,o,none⟩=W.cell? ⟨g,o,none⟩):=Aia (by
      intro W hW
      refine(xA _ _ hmj hmJ W).mono ?_
      rintro e w' ⟨rfl,b⟩
      obtain⟨C,t,hg,_⟩:=hW.row
      exact⟨rfl,hW.below b,fun o=>b.cell (p:=⟨g,o,none⟩) (Aa hg)⟩)
     clear hrj hrJ hjn hmj hmJ
     unfold A3 at HC
     go_wp2_with fail
     go_cut [34] (fun s34 wx=>s34=.bool (decide ((rj.seq:Int)-rJ.seq<0))/\I4 g l0 l w wx)
     case first=>
      go_region_held (fun w'=>∀o,w'.cell? ⟨g,o,none⟩=wr.cell? ⟨g,o,none⟩)
       (first|exact fun _=>rfl|exact fun o=>c2 o)
       (first|(go_at_call 186;refine(HC.out _ ?_).mono ?_;(repeat(first|exact hI.out|refine I4.drew ?_));rintro e w2 ⟨rfl,k2,c2⟩))
      all_goals(go_wp2_with fail;go_meet)
      all_goals exact⟨rfl,by repeat(first|exact k2|refine I4.drew ?_)⟩
     case rest=>
     obtain⟨rfl,hk2⟩:=hcut
     clear q0 q1 q2 q3 p0 p1 p2 p3 qf HC
     by_cases hlt2:(rj.seq:Int)-rJ.seq<0
     ·have hd:decide ((rj.seq:Int)-rJ.seq<0)=true:=decide_eq_true hlt2
      rw[hd]
      obtain⟨q0,q1,q2,q3⟩:=hk2.row.cells (J+1) HJN.out
      obtain⟨p0,p1,p2,p3⟩:=hk2.row.cells J (by have:=HJN.out;omega)
      rw[<-HRj.out]at q0 q1 q2 q3
      rw[<-HRJ.out]at p0 p1 p2 p3
      have qf:=hk2.row.free
      have HK2:=Aia hk2
      have HLT:=Aia hlt2
      clear hk2 hlt2 hd
      go_wp2_with fail
      go_region
      have nI:=Aia (Aa6 HK2.out HJN.out HRj.out HRJ.out)
      have nJ:=Aia (vI hJ.out hj HJN.out HRj.out HRJ.out HLT.out)
      have nL:Hid ((swp l (J+1)).length=l0.length):=Aia (by rw[rV];exact hlen.out)
      clear q0 q1 q2 q3 p0 p1 p2 p3 qf
      go_wp2_with fail
      go_roundw
      case rel=>exact⟨J,swp l (J+1),by omega,by go_num,nI,nJ,nL⟩
      case measure=>simp[intOf]
     ·have hd:decide ((rj.seq:Int)-rJ.seq<0)=false:=decide_eq_false hlt2
      rw[hd]
      have hso:=Aia (pS hJ.out hj (.inr (by
       have e1:=HRj.out
       have e2:=HRJ.out
       show sq l J<=sq l (J+1)
       unfold sq
       rw[<-e1,<-e2];omega)))
      have HK2:=Aia hk2
      clear hk2 hlt2
      go_wp2_with fail
      go_roundw
      case rel=>exact⟨i+1,l,by omega,by omega,by go_num,HK2,hso,hlen⟩
      case measure=>simp[intOf];omega
  ·have hso2:Hid (I3 l l0.length):=Aia (fun a b h1 h2=>hso.out a b h1 (by omega))
   go_wp2_with fail
   go_end0
   exact⟨rfl,l,hso2.out,hI.out⟩
end
section
open Go.RowKit
theorem Aao(n:Nat)(hn:n<=9)(w:World):Calls Tryz.prog 272 #[.int .u64 n] w fun e w'=>(∃k:Int,e=.returned (.int .i64 k))/\w'=w:=by
 have:n=0\/n=1\/n=2\/n=3\/n=4\/n=5\/n=6\/n=7\/n=8\/n=9:=by omega
 rcases this with rfl|rfl|rfl|rfl|rfl|rfl|rfl|rfl|rfl|rfl
 all_goals
  go_enter func272,ntmps272
  go_wp2_with fail
  go_ret
  exact⟨⟨_,rfl⟩,rfl⟩
theorem xP(n:Nat)(hn:n<=9)(w:World):Calls Tryz.prog 229 #[.int .u64 n] w fun e w'=>(∃k:Int,e=.returned (.int .i64 k))/\w'=w:=by
 have h:=Aao n hn w
 go_enter func229,ntmps229
 go_wp2_with fail
 refine h.mono ?_
 rintro e w1 ⟨⟨k,rfl⟩,rfl⟩
 go_wp2_with fail
 go_ret
 exact⟨⟨k,rfl⟩,rfl⟩
theorem Af0(w:World)(g cap:Nat)(l0:List Ar)(hr:Mu w g l0)(hs:∀r∈l0,r.seq<4294967296)(hn:l0.length<=9)(k:Int):
  Calls Tryz.prog 228 #[.slice (some ⟨g,0,none⟩) l0.length cap,.int .i64 0,.int .i64 l0.length,.int .i64 k,Sw] w fun e w'=>e=.returned (.tuple #[])/\∃l,I3 l l0.length/\I4 g l0 l w w':=by
 have h:=Aia (pR w g cap l0 hr hs (by omega))
 clear hr hs
 have hn2:(l0.length:Int)<=9:=by omega
 unfold Sw at h ⊢
 go_enter func228,ntmps228
 go_wp2_with fail
 go_loopw [1,2,3,10,11] (fun s1 s2 s3 s10 s11 wr=>s1=.int .i64 0/\s2=.int .i64 l0.length/\wr=w) (fun _ _ _ _ _ _=>0)
 case atStart=>exact⟨rfl,rfl,rfl⟩
 case round=>
  obtain⟨rfl,rfl,rfl⟩:=hrel
  go_wp2_with fail
  refine h.out.mono ?_
  rintro e w1 ⟨rfl,l,h1,h2⟩
  go_wp2_with fail
  refine bodyPost_ret (results_none rfl _ _ _) rfl ?_
  exact⟨rfl,l,h1,h2⟩
theorem Y0(w:World)(g cap:Nat)(l0:List Ar)(hr:Mu w g l0)(hs:∀r∈l0,r.seq<4294967296)(hn:l0.length<=9):
  Calls Tryz.prog 185 #[.slice (some ⟨g,0,none⟩) l0.length cap,Sw] w fun e w'=>e=.returned (.tuple #[])/\∃l,I3 l l0.length/\I4 g l0 l w w':=by
 have h1:=xP l0.length hn w
 have h2:=fun k=>Aia (Af0 w g cap l0 hr hs hn k)
 clear hr hs
 have hn2:(l0.length:Int)<=9:=by omega
 have e2:(2:Int) ^ IntKind.u64.bits=18446744073709551616:=by decide
 have hw:IntKind.u64.wrap (l0.length:Int)=(l0.length:Int):=by
  show(l0.length:Int).emod ((2:Int) ^ IntKind.u64.bits)=_
  rw[e2]
  exact Int.emod_eq_of_lt (by omega) (by omega)
 clear e2
 unfold Sw at h2 ⊢
 go_enter func185,ntmps185
 go_wp2_with fail
 refine h1.mono ?_
 rintro e w1 ⟨⟨k,rfl⟩,rfl⟩
 go_wp2_with fail
 refine(h2 k).out.mono ?_
 rintro e w1 ⟨rfl,l,h1,h2⟩
 go_wp2_with fail
 go_end0
 exact⟨rfl,l,h1,h2⟩
end
section
open Go.RowKit
structure C0 where
 whole:Bool
 exp:Bool
 run:Int
 cnt:Int
 gs:List Ha
 gbad:Bool
 pos:Int
 fbad:Bool
def Iv(E:Ap):C0:=⟨false,false,0,0,E.gaps.map gs0,false,-1,false⟩
def Ny(E:Ap):Int:=Ll E.count E.points.length
def X3(E:Ap)(m:C0)(p t:Int):C0:=
 ⟨m.whole,m.exp,m.run,Jj (Ny E) m.cnt p,m.gs.map (Iz · p t),m.gbad||m.gs.any (I6 · p t),En E p,m.fbad|| !Gu E m.pos p⟩
def Dh(E:Ap)(m:C0):Int:=
 if G9 (Ny E) E.mn E.mx m.cnt m.whole=false then 1 else if m.gbad=true then 2 else if m.fbad=true then 3 else 0
def tR(m:C0):C0:=⟨true,m.exp,m.run,0,m.gs,false,m.pos,false⟩
def Hc(E:Ap)(m:C0):Int:=if Dh E m=0 then 0 else m.run+1
def Hx(E:Ap)(m:C0):Bool:=decide (E.tol<Hc E m)&& !m.exp
def D1(E:Ap)(m:C0):C0:=⟨true,m.exp||decide (E.tol<Hc E m),Hc E m,0,m.gs,false,m.pos,false⟩
structure Agu (m:C0):Prop where
 g:rP m.gs
 n:m.gs.length<=100
 c0:0<=m.cnt
 c1:m.cnt<=1000
theorem R0(p c q:Int)(h0:0<=c)(h1:c<=1000):0<=Jj p c q/\Jj p c q<=1000:=by unfold Jj;split<;>omega
theorem pF(E:Ap)(h:E.gaps.length<=100):Agu (Iv E):=by
 refine⟨?_,by simpa [Iv] using h,by simp[Iv],by simp[Iv]⟩
 intro x hx
 simp only[Iv,List.mem_map]at hx
 obtain⟨g,_,rfl⟩:=hx
 simp[gs0]
structure Ah3 (s t wb a g:Nat) (ro:Option Nat) (lo hi:Nat):Prop where
 pw:s<=wb/\wb<t
 pa:s<=a/\a<t
 pg:s<=g/\g<t
 pr:∀b,ro=some b->s<=b/\b<t
 pf:s<=lo/\hi<=t
 wa:wb≠a
 wg:wb≠g
 wr:ro≠some wb
 wf:¬(lo<=wb/\wb<hi)
 ag:a≠g
 ar:ro≠some a
 af:¬(lo<=a/\a<hi)
 gf:¬(lo<=g/\g<hi)
 rf:∀b,ro=some b->¬(lo<=b/\b<hi)
def Gw(a g f:Nat)(wh ex:Bool)(run:Int):Obj:=.cells #[.pointer (some ⟨a,0,none⟩),.pointer (some ⟨g,0,none⟩),.pointer (some ⟨f,0,none⟩),.bool wh,.bool ex,.int .i64 run] 186
structure Ct (s t wb a g f:Nat) (ro:Option Nat) (base lo hi:Nat) (E:Ap) (m:C0) (w:World):Prop where
 ap:Ah3 s t wb a g ro lo hi
 box:w.heap[wb]? =some (Gw a g f m.whole m.exp m.run)
 al:w.heap[a]? =some (G4 (Ny E) E.mn E.mx m.cnt)
 ga:Fw base ro w g m.gs m.gbad
 fl:Dk lo hi E E.edges w f m.pos m.fbad
 ok:Agu m
 top:t<=w.heap.size
theorem Ct.keep{S:Nat->Prop}{s t wb a g f:Nat}{ro:Option Nat}{base lo hi:Nat}{E:Ap}{m:C0}{w w':World}(h:Ct s t wb a g f ro base lo hi E m w)(hk:Ae S w w')(hS:∀b,s<=b->b<t->¬S b):
  Ct s t wb a g f ro base lo hi E m w':=
 ⟨h.ap,hk.get h.box (hS _ h.ap.pw.1 h.ap.pw.2),hk.get h.al (hS _ h.ap.pa.1 h.ap.pa.2),
  h.ga.keep hk (fun b hb=>by rcases hb with rfl|hb;exact hS _ h.ap.pg.1 h.ap.pg.2;exact hS _ (h.ap.pr b hb).1 (h.ap.pr b hb).2),
  h.fl.keep hk (fun b h1 h2=>hS b (Nat.le_trans h.ap.pf.1 h1) (Nat.lt_of_lt_of_le h2 h.ap.pf.2)),h.ok,Nat.le_trans h.top hk.size⟩
def Jy(p:Option Addr)(E:Ap)(vp vg ve vf vl:Value):Obj:=
 .cells #[.pointer p,.string E.name,.int .i64 E.tol,vp,.int .i64 E.count,.int .i64 E.mn,.int .i64 E.mx,vg,ve,vf,vl] 178
theorem Dc{w:World}{l:Nat}{p:Option Addr}{E:Ap}{vp vg ve vf vl:Value}(h:w.heap[l]? =some (Jy p E vp vg ve vf vl)):
  w.cell? ⟨l,0,none⟩=some (.pointer p)/\w.cell? ⟨l,1,none⟩=some (.string E.name)/\w.cell? ⟨l,2,none⟩=some (.int .i64 E.tol)/\w.cell? ⟨l,3,none⟩=some vp/\w.cell? ⟨l,4,none⟩=some (.int .i64 E.count)/\
  w.cell? ⟨l,5,none⟩=some (.int .i64 E.mn)/\w.cell? ⟨l,6,none⟩=some (.int .i64 E.mx)/\w.cell? ⟨l,7,none⟩=some vg/\w.cell? ⟨l,8,none⟩=some ve/\w.cell? ⟨l,9,none⟩=some vf/\w.cell? ⟨l,10,none⟩=some vl/\∀o,w.frozen? ⟨l,o,none⟩=false:=by
 unfold Jy at h
 simp[World.cell?,World.frozen?,h]
theorem Fa{w:World}{b a g f:Nat}{wh ex:Bool}{run:Int}(h:w.heap[b]? =some (Gw a g f wh ex run)):
  w.cell? ⟨b,0,none⟩=some (.pointer (some ⟨a,0,none⟩))/\w.cell? ⟨b,1,none⟩=some (.pointer (some ⟨g,0,none⟩))/\w.cell? ⟨b,2,none⟩=some (.pointer (some ⟨f,0,none⟩))/\
  w.cell? ⟨b,3,none⟩=some (.bool wh)/\w.cell? ⟨b,4,none⟩=some (.bool ex)/\w.cell? ⟨b,5,none⟩=some (.int .i64 run)/\∀o,w.frozen? ⟨b,o,none⟩=false:=by
 unfold Gw at h
 simp[World.cell?,World.frozen?,h]
section
variable {s t wb a g f:Nat} {ro:Option Nat} {base lo hi:Nat} {E:Ap} {m:C0} {w w':World}
theorem Ct.alive(h:Ct s t wb a g f ro base lo hi E m w)(k:Ae (· =a) w w'){c:Int}(ha:w'.heap[a]? =some (G4 (Ny E) E.mn E.mx c))(h0:0<=c)(h1:c<=1000):
  Ct s t wb a g f ro base lo hi E ⟨m.whole,m.exp,m.run,c,m.gs,m.gbad,m.pos,m.fbad⟩ w':=
 ⟨h.ap,k.get h.box h.ap.wa,ha,h.ga.keep k (fun b hb e=>by subst e;rcases hb with e|e;exact h.ap.ag e;exact h.ap.ar e),h.fl.keep k (fun b h1 h2 e=>by subst e;exact h.ap.af ⟨h1,h2⟩),⟨h.ok.g,h.ok.n,h0,h1⟩,Nat.le_trans h.top k.size⟩
theorem Ct.gaps(h:Ct s t wb a g f ro base lo hi E m w)(k:Ae (fun b=>b=g\/ro=some b) w w'){L:List Ha}{bad:Bool}(hg:Fw base ro w' g L bad)(h0:rP L)(h1:L.length<=100):
  Ct s t wb a g f ro base lo hi E ⟨m.whole,m.exp,m.run,m.cnt,L,bad,m.pos,m.fbad⟩ w':=
 ⟨h.ap,k.get h.box (fun e=>by rcases e with e|e;exact h.ap.wg e;exact h.ap.wr e),k.get h.al (fun e=>by rcases e with e|e;exact h.ap.ag e;exact h.ap.ar e),hg,
  h.fl.keep k (fun b h1 h2 e=>by rcases e with e|e;subst e;exact h.ap.gf ⟨h1,h2⟩;exact h.ap.rf b e ⟨h1,h2⟩),⟨h0,h1,h.ok.c0,h.ok.c1⟩,Nat.le_trans h.top k.size⟩
theorem Ct.flow(h:Ct s t wb a g f ro base lo hi E m w)(k:Ae (· =f) w w'){p:Int}{bad:Bool}(hf:Dk lo hi E E.edges w' f p bad):
  Ct s t wb a g f ro base lo hi E ⟨m.whole,m.exp,m.run,m.cnt,m.gs,m.gbad,p,bad⟩ w':=
 ⟨h.ap,k.get h.box (fun e=>h.ap.wf (e▸⟨h.fl.flo,h.fl.fhi⟩)),k.get h.al (fun e=>h.ap.af (e▸⟨h.fl.flo,h.fl.fhi⟩)),
  h.ga.keep k (fun b hb e=>by subst e;rcases hb with e|e;exact h.ap.gf (e▸⟨h.fl.flo,h.fl.fhi⟩);exact h.ap.rf _ e ⟨h.fl.flo,h.fl.fhi⟩),hf,⟨h.ok.g,h.ok.n,h.ok.c0,h.ok.c1⟩,Nat.le_trans h.top k.size⟩
theorem Ct.box'(h:Ct s t wb a g f ro base lo hi E m w)(k:Ae (· =wb) w w'){wh ex:Bool}{run:Int}(hbx:w'.heap[wb]? =some (Gw a g f wh ex run)):
  Ct s t wb a g f ro base lo hi E ⟨wh,ex,run,m.cnt,m.gs,m.gbad,m.pos,m.fbad⟩ w':=
 ⟨h.ap,hbx,k.get h.al (fun e=>h.ap.wa e.symm),h.ga.keep k (fun b hb e=>by subst e;rcases hb with e|e;exact h.ap.wg e;exact h.ap.wr e),
  h.fl.keep k (fun b h1 h2 e=>by subst e;exact h.ap.wf ⟨h1,h2⟩),⟨h.ok.g,h.ok.n,h.ok.c0,h.ok.c1⟩,Nat.le_trans h.top k.size⟩
theorem Ct.own_a(h:Ct s t wb a g f ro base lo hi E m w)(k:Ae (· =a) w w'):Ae (fun b=>s<=b/\b<t) w w':=k.mono (fun b _ e=>by subst e;exact h.ap.pa)
theorem Ct.own_g(h:Ct s t wb a g f ro base lo hi E m w)(k:Ae (fun b=>b=g\/ro=some b) w w'):Ae (fun b=>s<=b/\b<t) w w':=k.mono (fun b _ e=>by rcases e with e|e;subst e;exact h.ap.pg;exact h.ap.pr b e)
theorem Ct.own_f(h:Ct s t wb a g f ro base lo hi E m w)(k:Ae (· =f) w w'):Ae (fun b=>s<=b/\b<t) w w':=k.mono (fun b _ e=>by subst e;exact⟨Nat.le_trans h.ap.pf.1 h.fl.flo,Nat.lt_of_lt_of_le h.fl.fhi h.ap.pf.2⟩)
theorem Ct.own_w(h:Ct s t wb a g f ro base lo hi E m w)(k:Ae (· =wb) w w'):Ae (fun b=>s<=b/\b<t) w w':=k.mono (fun b _ e=>by subst e;exact h.ap.pw)
end
structure Fi (l s t:Nat) (E:Ap) (vp vg ve vf vl:Value) (m:C0) (w:World):Prop where
 ex:∃wb a g f ro base lo hi,w.heap[l]? =some (Jy (some ⟨wb,0,none⟩) E vp vg ve vf vl)/\Ct s t wb a g f ro base lo hi E m w
 out:¬(s<=l/\l<t)
theorem Fi.keep{S:Nat->Prop}{l s t:Nat}{E:Ap}{vp vg ve vf vl:Value}{m:C0}{w w':World}(h:Fi l s t E vp vg ve vf vl m w)(hk:Ae S w w')(hl:¬S l)(hS:∀b,s<=b->b<t->¬S b):Fi l s t E vp vg ve vf vl m w':=by
 obtain⟨⟨wb,a,g,f,ro,base,lo,hi,h1,h2⟩,ho⟩:=h
 exact⟨⟨wb,a,g,f,ro,base,lo,hi,hk.get h1 hl,h2.keep hk hS⟩,ho⟩
end
end Go.Proofs.YtikehilbmldadaaGreatDoor
