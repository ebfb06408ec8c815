import Derived.Test.YtikehilbmldadaaGreatDoorV21
import Derived.Test.YtikehilbmldadaaGreatDoorV18
import Derived.Shelf.RegionOpenPlain
import Derived.Lib.ItoaLen
import Derived.Test.YtikehilbmldadaaGreatDoorV22
set_option maxHeartbeats 1000000
set_option maxRecDepth 100000
set_option linter.unusedVariables false
open Go.Proofs.Tryz Go.Proofs.YtikehilbmldadaaGreatDoor.Tryz
namespace Go.Proofs.YtikehilbmldadaaGreatDoor
open Go.RowKit
theorem Zc(B b:Nat)(l:List UInt8)(w:World)(h:Pg B b l w)(h0:l≠ []):
  Calls Tryz.prog 59 #[.pointer (some ⟨b,0,none⟩)] w fun e w'=>e=.returned (.string ⟨l.toArray⟩)/\Below B w w':=by
 obtain⟨p,hB,v,hbk,hown,hne⟩:=h.at_
 have hl0:l.length≠0:=by simpa using h0
 rw[Lib.byteCells_length]at hown
 obtain⟨g,cap,cur,rfl,hbg,hg,hnc,hcm,hcs,htake⟩:∃g cap cur,v=.slice (some ⟨g,0,none⟩) l.length cap/\B<=g/\w.heap[g]? =some (.cells cur 5 (0,0))/\l.length<=cap/\cap<=maxLen/\cur.size=cap*1/\cur.toList.take (l.length*1)=Lib.byteCells l:=by
  rcases hown.2 with⟨_,hz⟩|⟨g,cap,cur,hv,r⟩
  ·exact absurd hz hl0
  ·exact⟨g,cap,cur,hv,r⟩
 have c1:w.drew.cell? ⟨b,1,none⟩=some (.slice (some ⟨g,0,none⟩) l.length cap):=by
  have:w.drew.heap[b]? =some (.cells #[p,.slice (some ⟨g,0,none⟩) l.length cap] 123 (0,0)):=hbk
  rw[Lib.cell_of_heap this];rfl
 have hSD:(Builtin.unsafeSliceData_ #[85] 199 #[.slice (some ⟨g,0,none⟩) l.length cap]).run Tryz.prog w.drew=.ok (.pointer (some ⟨g,0,none⟩)) w.drew:=
  Lib.run_unsafeSliceData_row _ _ _ _ _ _ (by omega)
 have hUS:(Builtin.unsafeString_ #[199,3] 9 #[.pointer (some ⟨g,0,none⟩),.int .i64 l.length]).run Tryz.prog w.drew=.ok (.string ⟨l.toArray⟩) (w.drew.freeze ⟨g,0,none⟩ l.length):=by
  refine Lib.run_unsafeString_row w.drew 199 3 9 5 underlying199 cellsByteP g cur.size (by have hg':w.drew.heap[g]? =some (.cells cur 5 (0,0)):=hg;simp[World.shape?,hg']) l h0 (by omega) (by unfold maxLen at hcm;omega) ?_
  intro j x hx
  have:=hown.cells (g:=g) rfl j (.int .u8 x.toNat) (by simp[Lib.byteCells,hx])
  exact this
 have HBG:=Aia hbg
 have mixed:Tryz.prog.follows Departure.mixedOrders=true:=by kernel_rfl
 clear hown hbk hg htake hcs hcm hnc h0 hl0 h hne hbg
 go_enter func59,ntmps59
 go_wp2
 go_region_o
 all_goals(go_wp2;go_ret;exact⟨rfl,Lib.below_freeze (Below.drew (Below.refl B w)) (p:=⟨g,0,none⟩) HBG.out _⟩)
def Ii:ByteArray:=⟨#[119,105,110,100,111,119]⟩
def Je:ByteArray:=⟨#[99,121,99,108,101]⟩
def N6:ByteArray:=⟨#[100,101,108,97,121]⟩
def G2(C:Al):List (List W1):=[[.str Ii,.num C.closed,.num C.opn],[.str Je,.num C.cycle],[.str N6,.num C.delay]]
def Hm(C:Al):List UInt8:=(G2 C).flatMap Ca
theorem Xe(ws:List W1)(hs:∀x∈ws,(B3 x).length<=40):∀k,k<=ws.length->(upB ws k).length<=41*k
 |0,_=>by simp[upB]
 |k+1,hk=>by
  have ih:=Xe ws hs k (by omega)
  have h1:=hs ws[k] (List.getElem_mem (by omega))
  rw[gX ws k (by omega),List.length_append]
  unfold Ob
  split
  ·omega
  ·rw[List.length_cons];omega
theorem pH(ws:List W1)(hs:∀x∈ws,(B3 x).length<=40):(Ca ws).length<=41*ws.length+1:=by
 unfold Ca
 rw[List.length_append,List.length_singleton]
 have:=Xe ws hs ws.length (Nat.le_refl _)
 omega
theorem Xy(n:Int)(h:xE (.num n)):(B3 (.num n)).length<=40:=Nat.le_trans (Lib.itoa_length_le n h.1 h.2) (by decide)
theorem yQ(s:ByteArray)(h:s.size<=40):(B3 (.str s)).length<=40:=by
 show s.data.toList.length<=40
 rw[Array.length_toList];exact h
structure Gr (ws:List W1):Prop where
 ok:∀x∈ws,xE x/\(B3 x).length<=40
 len:ws.length<=5
theorem Gr.line{ws:List W1}(h:Gr ws):(Ca ws).length<=206:=by
 have:=pH ws (fun x hx=>(h.ok x hx).2)
 have:=h.len
 omega
theorem Gr.nil:Gr []:=⟨fun x hx=>(by cases hx),by decide⟩
theorem Gr.str{ws:List W1}(h:Gr ws)(hl:ws.length<=4)(s:ByteArray)(hs:s.size<=40):Gr (.str s::ws):=
 ⟨fun x hx=>by
  rcases List.mem_cons.1 hx with rfl|hx
  ·exact⟨trivial,yQ s hs⟩
  ·exact h.ok x hx,by simp;omega⟩
theorem Gr.num{ws:List W1}(h:Gr ws)(hl:ws.length<=4)(n:Int)(hn:-9223372036854775808<=n/\n<=9223372036854775807):Gr (.num n::ws):=
 ⟨fun x hx=>by
  rcases List.mem_cons.1 hx with rfl|hx
  ·exact⟨hn,Xy n hn⟩
  ·exact h.ok x hx,by simp;omega⟩
theorem Jb{B b:Nat}{l:List UInt8}{ws:List W1}{w0 wk:World}(h:PG B b l w0 wk)(hT:J4 B w0)(hw:Gr ws)(hl:l.length<=900000):
  Calls Tryz.prog 58 #[.pointer (some ⟨b,0,none⟩),.slice (some ⟨wk.heap.size,0,none⟩) ws.length ws.length] (wk.alloc (.cells (ws.map Tp).toArray 20)) fun e w'=>e=.returned (.tuple #[])/\PG B b (l++Ca ws) w0 w':=by
 have hb:Below wk.heap.size wk (wk.alloc (.cells (ws.map Tp).toArray 20)):=(Below.refl _ _).alloc (Nat.le_refl _) _
 have h1:=h.below hb
 have hlt:=h.pg.lt
 have hln:=hw.line
 refine(Rl B b l ws wk.heap.size _ h1.pg (by have:=h1.pg.lt;omega) (hT.low h1.bel (Nat.le_refl _)) (fun x hx=>(hw.ok x hx).1) (Ab _ _) (by omega) (by omega) (by have:=hw.len;omega)).mono ?_
 rintro e w' ⟨rfl,hp⟩
 exact⟨rfl,hp.pg,h1.bel.trans hp.bel,h1.oth.trans hp.oth⟩
structure Fu (E:Ap):Prop where
 name:E.name.size<=12
 tol:0<=E.tol/\E.tol<=20
 pl:E.points.length<=16
 ps:∀s∈E.points,s.size<=12
 cnt:-1<=E.count/\E.count<(E.points.length:Int)\/E.count= -1
 rng:0<=E.mn/\E.mn<=E.mx/\E.mx<1000
 gl:E.gaps.length<=8
 gs:∀g∈E.gaps,(0<=g.fr/\g.fr<(E.points.length:Int))/\(0<=g.dst/\g.dst<(E.points.length:Int))/\0<=g.mn/\g.mn<=g.mx/\g.mx<=1099511627776
 el:E.edges.length<=64
 es:∀x∈E.edges,(0<=x.1/\x.1<(E.points.length:Int))/\(0<=x.2/\x.2<(E.points.length:Int))
 fl:E.first.length<=16
 fs:∀k∈E.first,0<=k/\k<(E.points.length:Int)
 ll:E.last.length<=16
 ls:∀k∈E.last,0<=k/\k<(E.points.length:Int)
theorem Tg{s:ByteArray}(h:Bk s=true):s.size<=12:=by
 by_cases hh:1<=s.size/\s.size<=12
 ·exact hh.2
 ·rw[Gj hh]at h;cases h
theorem Qw{P:List ByteArray}(h:Ij P=0):∀s∈P,Bk s=true:=by
 intro s hs
 obtain⟨k,hk,rfl⟩:=List.mem_iff_getElem.1 hs
 have hall:∀n,∀j,j<n->j<P.length->ptE P j=0:=by
  intro n
  induction n with
  |zero=>intro j h1;omega
  |succ n ih=>
   intro j h1 h2
   by_cases hj:j<n
   ·exact ih j hj h2
   ·obtain rfl:j=n:=by omega
    by_cases hz:ptE P j=0
    ·exact hz
    ·rw[Mg h2 hz (fun i hi=>ih i hi (by omega))]at h
     exact h
 have:=hall (k+1) k (by omega) hk
 rw[Ux hk]at this
 cases hn:Bk P[k]
 ·rw[hn,if_pos rfl]at this;cases this
 ·rfl
theorem Ue{E:Ap}(h:S5 E=0):∀j,j<7->B9 E j=false:=by
 intro j hj
 cases hr:B9 E j
 ·rfl
 ·exfalso
  have hmin:∃k,k<7/\B9 E k=true/\∀i,i<k->B9 E i=false:=by
   have:∀n,(∃k,k<n/\B9 E k=true)->∃k,k<n/\B9 E k=true/\∀i,i<k->B9 E i=false:=by
    intro n
    induction n with
    |zero=>rintro⟨k,hk,_⟩;omega
    |succ n ih=>
     rintro⟨k,hk,hh⟩
     by_cases he:∃k,k<n/\B9 E k=true
     ·obtain⟨k',h1,h2,h3⟩:=ih he
      exact⟨k',by omega,h2,h3⟩
     ·refine⟨k,hk,hh,fun i hi=>?_⟩
      cases hri:B9 E i
      ·rfl
      ·exact absurd ⟨i,by omega,hri⟩ he
   exact this 7 ⟨j,hj,hr⟩
  obtain⟨k,h1,h2,h3⟩:=hmin
  rw[Ia k h1 h2 h3]at h
  match k,h1 with
  |0,_=>cases h
  |1,_=>cases h
  |2,_=>cases h
  |3,_=>cases h
  |4,_=>cases h
  |5,_=>cases h
  |6,_=>cases h
theorem T6{ah:List ByteArray}{E:Ap}(h:A0 ah E=0):Fu E:=by
 have h1:Bk E.name=true:=by
  cases hh:Bk E.name
  ·rw[O5 hh]at h;cases h
  ·rfl
 have h2:Cj ah E.name=false:=by
  cases hh:Cj ah E.name
  ·rfl
  ·rw[Nr h1 hh]at h;cases h
 have h3:Ep E=false:=by
  cases hh:Ep E
  ·rfl
  ·rw[Ns h1 h2 hh]at h;cases h
 have h4:Ij E.points=0:=by
  by_cases hh:Ij E.points=0
  ·exact hh
  ·rw[Q6 h1 h2 h3 hh]at h;exact h
 rw[Nq h1 h2 h3 h4]at h
 have hr:=Ue h
 have r0:=hr 0 (by decide)
 have r1:=hr 1 (by decide)
 have r2:=hr 2 (by decide)
 have r3:=hr 3 (by decide)
 simp only[B9]at r0 r1 r2 r3
 unfold Ep at h3
 rw[Bool.or_eq_false_iff]at h3
 obtain⟨t1,t2⟩:=h3
 simp only[P6,Z4,decide_eq_false_iff_not]at t1 t2
 have hst:He E=false/\T0 E=false:=by
  unfold Io at r0
  rw[Bool.or_eq_false_iff]at r0
  exact⟨r0.2,r0.1⟩
 obtain⟨s1,s2⟩:=hst
 have hall:∀x∈Gx E,0<=x/\x<(E.points.length:Int):=by
  intro x hx
  have:=List.any_eq_false.1 s1 x hx
  simp only[decide_eq_true_eq]at this
  omega
 simp only[T0,Sh,decide_eq_false_iff_not]at s2 r2
 refine⟨Tg h1,by omega,by omega,fun s hs=>Tg (Qw h4 s hs),by omega,by omega,by omega,fun g hg=>?_,by omega,fun x hx=>?_,by omega,fun k hk=>?_,by omega,fun k hk=>?_⟩
 ·have q:=List.any_eq_false.1 r3 g hg
  simp only[Bu,decide_eq_true_eq]at q
  refine⟨hall _ ?_,hall _ ?_,by omega,by omega,by omega⟩
  ·unfold Gx
   exact List.mem_append_left _ (List.mem_append_right _ (List.mem_flatMap.2 ⟨g,hg,by simp⟩))
  ·unfold Gx
   exact List.mem_append_left _ (List.mem_append_right _ (List.mem_flatMap.2 ⟨g,hg,by simp⟩))
 ·refine⟨hall _ ?_,hall _ ?_⟩
  ·unfold Gx
   exact List.mem_append_right _ (List.mem_flatMap.2 ⟨x,hx,by simp⟩)
  ·unfold Gx
   exact List.mem_append_right _ (List.mem_flatMap.2 ⟨x,hx,by simp⟩)
 ·refine hall _ ?_
  unfold Gx
  exact List.mem_append_left _ (List.mem_append_left _ (List.mem_append_left _ hk))
 ·refine hall _ ?_
  unfold Gx
  exact List.mem_append_left _ (List.mem_append_left _ (List.mem_append_right _ hk))
def J2:ByteArray:=⟨#[101,110,116,105,116,121]⟩
def Zb:ByteArray:=⟨#[112,111,105,110,116]⟩
def N7:ByteArray:=⟨#[99,111,117,110,116]⟩
def Sr:ByteArray:=⟨#[103,97,112]⟩
def Su:ByteArray:=⟨#[101,100,103,101]⟩
def Vt:ByteArray:=⟨#[102,105,114,115,116]⟩
def U5:ByteArray:=⟨#[108,97,115,116]⟩
def Bb(E:Ap)(k:Int):ByteArray:=E.points.getD k.toNat ByteArray.empty
def Hi(s:ByteArray):List W1:=[.str Zb,.str s]
def Ed(E:Ap)(g:Lb):List W1:=[.str Sr,.str (Bb E g.fr),.str (Bb E g.dst),.num g.mn,.num g.mx]
def D5(E:Ap)(x:Int × Int):List W1:=[.str Su,.str (Bb E x.1),.str (Bb E x.2)]
def Ev(E:Ap)(k:Int):List W1:=[.str Vt,.str (Bb E k)]
def Et(E:Ap)(k:Int):List W1:=[.str U5,.str (Bb E k)]
def Ew(E:Ap):List (List W1):=if 0<=E.count then [[.str N7,.str (Bb E E.count),.num E.mn,.num E.mx]] else []
def B6(E:Ap):List (List W1):=[.str J2,.str E.name,.num E.tol]::(E.points.map Hi++Ew E++E.gaps.map (Ed E)++E.edges.map (D5 E)++E.first.map (Ev E)++E.last.map (Et E))
def Aq(L:List (List W1)):List UInt8:=L.flatMap Ca
def Df(C:Al):List UInt8:=Hm C++C.ents.flatMap (fun E=>Aq (B6 E))
theorem B4(L M:List (List W1)):Aq (L++M)=Aq L++Aq M:=List.flatMap_append
theorem D8(ws:List W1):Aq [ws]=Ca ws:=by simp[Aq]
theorem Di{L:List (List W1)}(h:∀ws∈L,Gr ws):(Aq L).length<=206*L.length:=by
 induction L with
 |nil=>simp[Aq]
 |cons ws L ih=>
  have h1:=(h ws (List.mem_cons_self ..)).line
  have h2:=ih (fun x hx=>h x (List.mem_cons_of_mem _ hx))
  show(Ca ws++Aq L).length<=_
  rw[List.length_append,List.length_cons]
  omega
theorem F0{E:Ap}(h:Fu E)(k:Int):(Bb E k).size<=40:=by
 unfold Bb
 rw[List.getD_eq_getElem?_getD]
 cases hk:E.points[k.toNat]? with
 |none=>exact Nat.zero_le _
 |some s=>
  have:=h.ps s (List.mem_of_getElem? hk)
  show s.size<=40
  omega
theorem V0{E:Ap}(h:Fu E):Gr [.str J2,.str E.name,.num E.tol]:=
 ((Gr.nil.num (by simp) _ (by have:=h.tol;omega)).str (by simp) _ (by have:=h.name;omega)).str (by simp) _ (by decide)
theorem Za{E:Ap}(h:Fu E){s:ByteArray}(hs:s∈E.points):Gr (Hi s):=(Gr.nil.str (by simp) _ (by have:=h.ps s hs;omega)).str (by simp) _ (by decide)
theorem qZ{E:Ap}(h:Fu E):Gr [.str N7,.str (Bb E E.count),.num E.mn,.num E.mx]:=
 (((Gr.nil.num (by simp) _ (by have:=h.rng;omega)).num (by simp) _ (by have:=h.rng;omega)).str (by simp) _ (F0 h _)).str (by simp) _ (by decide)
theorem Vr{E:Ap}(h:Fu E){g:Lb}(hg:g∈E.gaps):Gr (Ed E g):=
 ((((Gr.nil.num (by simp) _ (by have:=h.gs g hg;omega)).num (by simp) _ (by have:=h.gs g hg;omega)).str (by simp) _ (F0 h _)).str (by simp) _ (F0 h _)).str (by simp) _ (by decide)
theorem V1{E:Ap}(h:Fu E)(x:Int × Int):Gr (D5 E x):=((Gr.nil.str (by simp) _ (F0 h _)).str (by simp) _ (F0 h _)).str (by simp) _ (by decide)
theorem Vs{E:Ap}(h:Fu E)(k:Int):Gr (Ev E k):=(Gr.nil.str (by simp) _ (F0 h _)).str (by simp) _ (by decide)
theorem U4{E:Ap}(h:Fu E)(k:Int):Gr (Et E k):=(Gr.nil.str (by simp) _ (F0 h _)).str (by simp) _ (by decide)
structure RdS where
 c:Al
 stage:Int
def RdS.start:RdS:=⟨⟨0,0,0,0,[]⟩,-1⟩
def noE:Ap:=⟨ByteArray.empty,0,[],-1,0,0,[],[],[],[]⟩
def Bo(L:List Ap):Ap:=L.getLast?.getD noE
def Mi(name:ByteArray)(tol:Int):Ap:=⟨name,tol,[],-1,0,0,[],[],[],[]⟩
def Bl(k:Nat)(name:ByteArray)(n:List Int)(E:Ap):Ap:=
 if k=4 then { E with points:=E.points++ [name]}
 else if k=5 then { E with count:=n.getD 0 0,mn:=n.getD 1 0,mx:=n.getD 2 0}
 else if k=6 then { E with gaps:=E.gaps++ [⟨n.getD 0 0,n.getD 1 0,n.getD 2 0,n.getD 3 0⟩]}
 else if k=7 then { E with edges:=E.edges++ [(n.getD 0 0,n.getD 1 0)]}
 else if k=8 then { E with first:=E.first++ [n.getD 0 0]}
 else if k=9 then { E with last:=E.last++ [n.getD 0 0]}
 else E
def Bf(k:Nat)(name:ByteArray)(n:List Int)(C:Al):Al:=
 if k=0 then { C with closed:=n.getD 0 0,opn:=n.getD 1 0}
 else if k=1 then { C with cycle:=n.getD 0 0}
 else if k=2 then { C with delay:=n.getD 0 0}
 else if k=3 then { C with ents:=C.ents++ [Mi name (n.getD 0 0)]}
 else { C with ents:=C.ents.dropLast++ [Bl k name n (Bo C.ents)]}
def Cn(l:List ByteArray)(s:ByteArray):Int:=C9 l s
def A2(pts:List ByteArray)(f:UInt8)(t:ByteArray)(p:List Int × Bool):Option (List Int × Bool):=
 if f=110 then (match Dz t with|some k=>some (p.1++ [(k:Int)],p.2)|none=>none)
 else if t.size=0 then none
 else if f=112 then some (p.1++ [Cn pts t],p.2||decide (Cn pts t<0))
 else some p
def Az(pts:List ByteArray)(fs:List UInt8)(ts:List ByteArray):Nat->Option (List Int × Bool)
 |0=>some ([],false)
 |k+1=>match Az pts fs ts k with
  |none=>none
  |some p=>A2 pts (fs.getD k 0) (ts.getD k ByteArray.empty) p
theorem Im{pts:List ByteArray}{fs:List UInt8}{ts:List ByteArray}{k:Nat}(h:Az pts fs ts k=none):∀m,k<=m->Az pts fs ts m=none:=by
 intro m
 induction m with
 |zero=>intro hk;have hk0:k=0:=Nat.le_zero.1 hk;rw[hk0]at h;exact h
 |succ m ih=>
  intro hk
  by_cases he:k=m+1
  ·subst he;exact h
  ·unfold Az;rw[ih (by omega)]
def Ic(s:ByteArray):List ByteArray:=Bj 32 s
def Gq(s:ByteArray):ByteArray:=(Ic s).headD ByteArray.empty
def Ch(st:RdS)(s:ByteArray):Bool:=Dr (Gq s)&&Bi st.stage (Bp (Gq s))&&((Ic s).length-1==(Ba (Gq s)).size)
def Lf(st:RdS)(s:ByteArray):Option (List Int × Bool):=Az (Bo st.c.ents).points (Ba (Gq s)).data.toList (Ic s).tail (Ba (Gq s)).size
def A8(st:RdS)(s:ByteArray):Nat × RdS:=
 if Ch st s=true then
  match Lf st s with
  |none=>(1,st)
  |some p=>if p.2=true then (5,st) else (0,⟨Bf (Bp (Gq s)) ((Ic s).getD 1 ByteArray.empty) p.1 st.c,Bp (Gq s)⟩)
 else (1,st)
def Bg(ls:List ByteArray):Nat->RdS
 |0=>RdS.start
 |k+1=>(A8 (Bg ls k) (ls.getD k ByteArray.empty)).2
def B5(ls:List ByteArray)(i:Nat):Nat:=(A8 (Bg ls i) (ls.getD i ByteArray.empty)).1
def Lr(ls:List ByteArray):Nat × Int:=match (List.range ls.length).find? (fun i=>B5 ls i != 0)with|some i=>(B5 ls i,(i:Int))|none=>(0,-1)
theorem Na{L:List ByteArray}{k:Nat}(hk:k<L.length)(h:B5 L k≠0)(hb:∀j,j<k->B5 L j=0):Lr L=(B5 L k,(k:Int)):=by
 have:(List.range L.length).find? (fun i=>B5 L i != 0)=some k:=by
  rw[List.find?_range_eq_some]
  refine⟨by simpa using h,List.mem_range.2 hk,fun j hj=>?_⟩
  simp[hb j hj]
 unfold Lr
 rw[this]
theorem Ol{L:List ByteArray}(h:∀j,j<L.length->B5 L j=0):Lr L=(0,-1):=by
 have:(List.range L.length).find? (fun i=>B5 L i != 0)=none:=by
  rw[List.find?_eq_none]
  intro i hi
  simp[h i (List.mem_range.1 hi)]
 unfold Lr
 rw[this]
def C4(s:ByteArray):ByteArray:=if s.data.toList.getLast? =some 10 then s.extract 0 (s.size-1) else s
def Ao(s:ByteArray):List ByteArray:=if s.size=0 then [] else Bj 10 (C4 s)
def Bw:Al:=⟨0,0,0,0,[]⟩
def Cg(s:ByteArray):Al × (Nat × Int):=
 if 8000<s.size then (Bw,(2,-1))
 else if (Lr (Ao s)).1≠0 then (Bw,Lr (Ao s))
 else if (Bg (Ao s) (Ao s).length).stage<2 then (Bw,(1,((Ao s).length:Int)))
 else if (B7 (Bg (Ao s) (Ao s).length).c).1≠0 then (Bw,B7 (Bg (Ao s) (Ao s).length).c)
 else ((Bg (Ao s) (Ao s).length).c,(0,-1))
end Go.Proofs.YtikehilbmldadaaGreatDoor
