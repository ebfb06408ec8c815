import Derived.Test.YtikehilbmldadaaGreatDoorV33
import Derived.Test.YtikehilbmldadaaGreatDoorV26
set_option linter.unusedVariables false
open Go.Proofs.Tryz Go.Proofs.YtikehilbmldadaaGreatDoor.Tryz
namespace Go.Proofs.YtikehilbmldadaaGreatDoor
open Go.RowKit
def cfg(C:Al)(L:List Ap):Al:={ C with ents:=L}
def Uy(E:Ap)(done:List ByteArray):Ap:=⟨E.name,E.tol,done,-1,0,0,[],[],[],[]⟩
def Ty(E:Ap)(l:List Lb):Ap:=⟨E.name,E.tol,E.points,E.count,E.mn,E.mx,l,[],[],[]⟩
def W8(E:Ap)(l:List (Int × Int)):Ap:=⟨E.name,E.tol,E.points,E.count,E.mn,E.mx,E.gaps,l,[],[]⟩
def Z5(E:Ap)(l:List Int):Ap:=⟨E.name,E.tol,E.points,E.count,E.mn,E.mx,E.gaps,E.edges,l,[]⟩
def pD(E:Ap)(l:List Int):Ap:=⟨E.name,E.tol,E.points,E.count,E.mn,E.mx,E.gaps,E.edges,E.first,l⟩
theorem Lx(C:Al)(pre:List Ap)(e:Ap)(k:Nat)(hk:4<=k)(name:ByteArray)(n:List Int):Bf k name n (cfg C (pre++ [e]))=cfg C (pre++ [Bl k name n e]):=by
 unfold Bf
 rw[if_neg (by omega),if_neg (by omega),if_neg (by omega),if_neg (by omega)]
 show cfg C ((pre++ [e]).dropLast++ [Bl k name n (Bo (pre++ [e]))])=_
 rw[List.dropLast_concat,Id]
theorem Mb{α:Type}(f:α->ByteArray)(ok:α->Prop)(lo hi:Int)(hlh:lo<=hi)(mk:List α->Al)
  (hstep:∀done x st,lo<=st->st<=hi->ok x->A8 ⟨mk done,st⟩ (f x)=(0,⟨mk (done++ [x]),hi⟩)):
  ∀(rest done:List α) (st:Int),lo<=st->st<=hi->(∀x∈rest,ok x)->∃st',lo<=st'/\st'<=hi/\Jq ⟨mk done,st⟩ (rest.map f)=some ⟨mk (done++rest),st'⟩
 |[],done,st,h1,h2,_=>⟨st,h1,h2,by rw[List.append_nil];rfl⟩
 |x::rest,done,st,h1,h2,h=>by
  obtain⟨st',h3,h4,h5⟩:=Mb f ok lo hi hlh mk hstep rest (done++ [x]) hi hlh (Int.le_refl _) (fun y hy=>h y (List.mem_cons_of_mem _ hy))
  refine⟨st',h3,h4,?_⟩
  rw[List.map_cons,Po (hstep done x st h1 h2 (h x (List.mem_cons_self ..))) h5,List.append_assoc]
  rfl
theorem Md(k:Nat)(hk:4<=k)(hk5:k≠5){st:Int}(h1:3<=st)(h2:st<=k):Bi st k=true:=by
 unfold Bi
 rw[if_neg (by omega),if_neg (by omega),if_neg hk5]
 simp[h1,h2]
theorem zO{st:Int}(h1:3<=st)(h2:st<=4):Bi st 5=true:=by
 unfold Bi
 rw[if_neg (by omega),if_neg (by omega),if_pos rfl]
 have:st=3\/st=4:=by omega
 rcases this with rfl|rfl<;>rfl
theorem K6{E:Ap}(h:Nv E){k:Int}(h0:0<=k)(hk:k<(E.points.length:Int)):R6 (.str (Bb E k)):=.inl (Ju h h0 hk).2
theorem Hl{s:ByteArray}(h:s∈ [Ii,Je,N6,J2,Zb,N7,Sr,Su,Vt,U5]):R6 (.str s):=.inr h
theorem Xb{p:W1->Prop}{a:W1}(ha:p a):∀x∈ [a],p x:=fun x hx=>by obtain rfl:=List.mem_singleton.1 hx;exact ha
theorem Do{p:W1->Prop}{a:W1}{l:List W1}(ha:p a)(h:∀x∈l,p x):∀x∈a::l,p x:=fun x hx=>by
 rcases List.mem_cons.1 hx with rfl|hx
 ·exact ha
 ·exact h x hx
def D2(ws:List W1):Prop:=(1<=ws.length/\ws.length<=5)/\∀x∈ws,R6 x
theorem D2.w{ws:List W1}(h:D2 ws):Ic (Bv ws)=ws.map Lc:=Adq (by intro e;have:=h.1;rw[e]at this;simp at this) (Vw h.2 32 (by decide))
theorem D2.no{ws:List W1}(h:D2 ws):10∉(Bv ws).data.toList:=Aak (Vw h.2 10 (by decide))
theorem D2.b{ws:List W1}(h:D2 ws):Ca ws=(Bv ws).data.toList++ [10]:=Adr ws h.1.1 h.1.2
section
variable {pts:List ByteArray} {a b c d:ByteArray} {i j x y:Int}
theorem go_n(hx:∃k:Nat,x=k/\Dz a=some k):Az pts [110] [a] 1=some ([x],false):=by
 obtain⟨k,rfl,hk⟩:=hx
 exact Fs (p:=([],false)) rfl (Yx hk)
theorem go_nn(hx:∃k:Nat,x=k/\Dz a=some k)(hy:∃k:Nat,y=k/\Dz b=some k):Az pts [110,110] [a,b] 2=some ([x,y],false):=by
 obtain⟨k,rfl,hk⟩:=hx
 obtain⟨m,rfl,hm⟩:=hy
 exact Fs (p:=([(k:Int)],false)) (Fs (p:=([],false)) rfl (Yx hk)) (Yx hm)
theorem go_sn(ha:a.size≠0)(hy:∃k:Nat,y=k/\Dz b=some k):Az pts [115,110] [a,b] 2=some ([y],false):=by
 obtain⟨m,rfl,hm⟩:=hy
 exact Fs (p:=([],false)) (Fs (p:=([],false)) rfl (Agv ha)) (Yx hm)
theorem go_s(ha:a.size≠0):Az pts [115] [a] 1=some ([],false):=Fs (p:=([],false)) rfl (Agv ha)
theorem go_p(ha:Cn pts a=i)(hi:0<=i)(hs:a.size≠0):Az pts [112] [a] 1=some ([i],false):=Fs (p:=([],false)) rfl (yD ha hi hs)
theorem go_pp(ha:Cn pts a=i)(hi:0<=i)(hs:a.size≠0)(hb:Cn pts b=j)(hj:0<=j)(ht:b.size≠0):Az pts [112,112] [a,b] 2=some ([i,j],false):=
 Fs (p:=([i],false)) (go_p' ha hi hs) (yD hb hj ht)
where go_p' (ha:Cn pts a=i) (hi:0<=i) (hs:a.size≠0):Az pts [112,112] [a,b] 1=some ([i],false):=Fs (p:=([],false)) rfl (yD ha hi hs)
theorem go_pnn(ha:Cn pts a=i)(hi:0<=i)(hs:a.size≠0)(hx:∃k:Nat,x=k/\Dz b=some k)(hy:∃k:Nat,y=k/\Dz c=some k):Az pts [112,110,110] [a,b,c] 3=some ([i,x,y],false):=by
 obtain⟨k,rfl,hk⟩:=hx
 obtain⟨m,rfl,hm⟩:=hy
 exact Fs (p:=([i,(k:Int)],false)) (Fs (p:=([i],false)) (Fs (p:=([],false)) rfl (yD ha hi hs)) (Yx hk)) (Yx hm)
theorem go_ppnn(ha:Cn pts a=i)(hi:0<=i)(hs:a.size≠0)(hb:Cn pts b=j)(hj:0<=j)(ht:b.size≠0)(hx:∃k:Nat,x=k/\Dz c=some k)(hy:∃k:Nat,y=k/\Dz d=some k):Az pts [112,112,110,110] [a,b,c,d] 4=some ([i,j,x,y],false):=by
 obtain⟨k,rfl,hk⟩:=hx
 obtain⟨m,rfl,hm⟩:=hy
 exact Fs (p:=([i,j,(k:Int)],false)) (Fs (p:=([i,j],false)) (Fs (p:=([i],false)) (Fs (p:=([],false)) rfl (yD ha hi hs)) (yD hb hj ht)) (Yx hk)) (Yx hm)
end
section
variable {E:Ap} (h:Nv E)
include h
theorem Adx:D2 [.str J2,.str E.name,.num E.tol]:=⟨by simp,Do (Hl (by simp)) (Do (.inl h.name) (Xb h.good.tol.1))⟩
theorem Ads{s:ByteArray}(hs:s∈E.points):D2 (Hi s):=⟨by simp[Hi],Do (Hl (by simp)) (Xb (.inl (h.pts s hs)))⟩
theorem Adz(h0:0<=E.count):D2 [.str N7,.str (Bb E E.count),.num E.mn,.num E.mx]:=by
 have hc:=h.cnt
 have hr:=h.good.rng
 exact⟨by simp,Do (Hl (by simp)) (Do (K6 h h0 (by omega)) (Do (show 0<=E.mn by omega) (Xb (show 0<=E.mx by omega))))⟩
theorem Adu{g:Lb}(hg:g∈E.gaps):D2 (Ed E g):=by
 obtain⟨a,b,c,d,_⟩:=h.good.gs g hg
 exact⟨by simp[Ed],Do (Hl (by simp)) (Do (K6 h a.1 a.2) (Do (K6 h b.1 b.2) (Do c (Xb (show 0<=g.mx by omega)))))⟩
theorem Ady{x:Int × Int}(hx:x∈E.edges):D2 (D5 E x):=by
 obtain⟨a,b⟩:=h.good.es x hx
 exact⟨by simp[D5],Do (Hl (by simp)) (Do (K6 h a.1 a.2) (Xb (K6 h b.1 b.2)))⟩
theorem Adv{k:Int}(hk:k∈E.first):D2 (Ev E k):=by
 have a:=h.good.fs k hk
 exact⟨by simp[Ev],Do (Hl (by simp)) (Xb (K6 h a.1 a.2))⟩
theorem Adt{k:Int}(hk:k∈E.last):D2 (Et E k):=by
 have a:=h.good.ls k hk
 exact⟨by simp[Et],Do (Hl (by simp)) (Xb (K6 h a.1 a.2))⟩
theorem Ach(C:Al)(pre:List Ap)(done:List ByteArray){s:ByteArray}(hs:s∈E.points){st:Int}(h1:3<=st)(h2:st<=4):
  A8 ⟨cfg C (pre++ [Uy E done]),st⟩ (Bv (Hi s))=(0,⟨cfg C (pre++ [Uy E (done++ [s])]),4⟩):=by
 have hw:=(Ads h hs).w
 rw[Hk (w0:=Zb) (ts:=[s]) (k:=4) (fs:=⟨#[115]⟩) (n:=[]) hw (by decide) rfl (Md 4 (by decide) (by decide) h1 h2) (go_s (G8 (h.pts s hs)))]
 congr 2
 exact Lx C pre _ 4 (by decide) s []
theorem Acm(C:Al)(pre:List Ap)(h0:0<=E.count){st:Int}(h1:3<=st)(h2:st<=4):
  A8 ⟨cfg C (pre++ [Uy E E.points]),st⟩ (Bv [.str N7,.str (Bb E E.count),.num E.mn,.num E.mx])=(0,⟨cfg C (pre++ [Ty E []]),5⟩):=by
 have hw:=(Adz h h0).w
 have hc:=h.cnt
 have hr:=h.good.rng
 obtain⟨hi,hn⟩:=Ju h h0 (by omega)
 have hl:(Bo (pre++ [Uy E E.points])).points=E.points:=by rw[Id];rfl
 rw[Hk (w0:=N7) (ts:=[Bb E E.count,Lc (.num E.mn),Lc (.num E.mx)]) (k:=5) (fs:=⟨#[112,110,110]⟩) (n:=[E.count,E.mn,E.mx]) hw (by decide) rfl (zO h1 h2)
  (go_pnn (by show Cn (Bo (pre++ [Uy E E.points])).points _=_;rw[hl];exact hi) h0 (G8 hn) (It (n:=E.mn) (by omega) (by omega)) (It (n:=E.mx) (by omega) (by omega)))]
 congr 2
 exact Lx C pre _ 5 (by decide) _ _
theorem Acj(C:Al)(pre:List Ap)(done:List Lb){g:Lb}(hg:g∈E.gaps){st:Int}(h1:3<=st)(h2:st<=6):
  A8 ⟨cfg C (pre++ [Ty E done]),st⟩ (Bv (Ed E g))=(0,⟨cfg C (pre++ [Ty E (done++ [g])]),6⟩):=by
 have hw:=(Adu h hg).w
 obtain⟨a,b,c,d,e⟩:=h.good.gs g hg
 obtain⟨hi,hn⟩:=Ju h a.1 a.2
 obtain⟨hj,hm⟩:=Ju h b.1 b.2
 have hl:(Bo (pre++ [Ty E done])).points=E.points:=by rw[Id];rfl
 rw[Hk (w0:=Sr) (ts:=[Bb E g.fr,Bb E g.dst,Lc (.num g.mn),Lc (.num g.mx)]) (k:=6) (fs:=⟨#[112,112,110,110]⟩) (n:=[g.fr,g.dst,g.mn,g.mx]) hw (by decide) rfl (Md 6 (by decide) (by decide) h1 h2)
  (go_ppnn (by show Cn (Bo (pre++ [Ty E done])).points _=_;rw[hl];exact hi) a.1 (G8 hn) (by show Cn (Bo (pre++ [Ty E done])).points _=_;rw[hl];exact hj) b.1 (G8 hm) (It (n:=g.mn) (by omega) (by omega)) (It (n:=g.mx) (by omega) (by omega)))]
 congr 2
 exact Lx C pre _ 6 (by decide) _ _
theorem Acl(C:Al)(pre:List Ap)(done:List (Int × Int)){x:Int × Int}(hx:x∈E.edges){st:Int}(h1:3<=st)(h2:st<=7):
  A8 ⟨cfg C (pre++ [W8 E done]),st⟩ (Bv (D5 E x))=(0,⟨cfg C (pre++ [W8 E (done++ [x])]),7⟩):=by
 have hw:=(Ady h hx).w
 obtain⟨a,b⟩:=h.good.es x hx
 obtain⟨hi,hn⟩:=Ju h a.1 a.2
 obtain⟨hj,hm⟩:=Ju h b.1 b.2
 have hl:(Bo (pre++ [W8 E done])).points=E.points:=by rw[Id];rfl
 rw[Hk (w0:=Su) (ts:=[Bb E x.1,Bb E x.2]) (k:=7) (fs:=⟨#[112,112]⟩) (n:=[x.1,x.2]) hw (by decide) rfl (Md 7 (by decide) (by decide) h1 h2)
  (go_pp (by show Cn (Bo (pre++ [W8 E done])).points _=_;rw[hl];exact hi) a.1 (G8 hn) (by show Cn (Bo (pre++ [W8 E done])).points _=_;rw[hl];exact hj) b.1 (G8 hm))]
 congr 2
 exact Lx C pre _ 7 (by decide) _ _
theorem Ack(C:Al)(pre:List Ap)(done:List Int){x:Int}(hx:x∈E.first){st:Int}(h1:3<=st)(h2:st<=8):
  A8 ⟨cfg C (pre++ [Z5 E done]),st⟩ (Bv (Ev E x))=(0,⟨cfg C (pre++ [Z5 E (done++ [x])]),8⟩):=by
 have hw:=(Adv h hx).w
 have a:=h.good.fs x hx
 obtain⟨hi,hn⟩:=Ju h a.1 a.2
 have hl:(Bo (pre++ [Z5 E done])).points=E.points:=by rw[Id];rfl
 rw[Hk (w0:=Vt) (ts:=[Bb E x]) (k:=8) (fs:=⟨#[112]⟩) (n:=[x]) hw (by decide) rfl (Md 8 (by decide) (by decide) h1 h2)
  (go_p (by show Cn (Bo (pre++ [Z5 E done])).points _=_;rw[hl];exact hi) a.1 (G8 hn))]
 congr 2
 exact Lx C pre _ 8 (by decide) _ _
theorem Aci(C:Al)(pre:List Ap)(done:List Int){x:Int}(hx:x∈E.last){st:Int}(h1:3<=st)(h2:st<=9):
  A8 ⟨cfg C (pre++ [pD E done]),st⟩ (Bv (Et E x))=(0,⟨cfg C (pre++ [pD E (done++ [x])]),9⟩):=by
 have hw:=(Adt h hx).w
 have a:=h.good.ls x hx
 obtain⟨hi,hn⟩:=Ju h a.1 a.2
 have hl:(Bo (pre++ [pD E done])).points=E.points:=by rw[Id];rfl
 rw[Hk (w0:=U5) (ts:=[Bb E x]) (k:=9) (fs:=⟨#[112]⟩) (n:=[x]) hw (by decide) rfl (Md 9 (by decide) (by decide) h1 h2)
  (go_p (by show Cn (Bo (pre++ [pD E done])).points _=_;rw[hl];exact hi) a.1 (G8 hn))]
 congr 2
 exact Lx C pre _ 9 (by decide) _ _
theorem Ac1(C:Al)(pre:List Ap){st:Int}(h1:3<=st)(h2:st<=4):∃st',3<=st'/\st'<=4/\Jq ⟨cfg C (pre++ [Uy E []]),st⟩ (E.points.map (fun s=>Bv (Hi s)))=some ⟨cfg C (pre++ [Uy E E.points]),st'⟩:=by
 have hs:= @Ach E h C pre
 exact Mb (fun s=>Bv (Hi s)) (· ∈E.points) 3 4 (by decide) (fun done=>cfg C (pre++ [Uy E done])) (fun done x st h1 h2 hx=>hs done hx h1 h2) E.points [] st h1 h2 (fun x hx=>hx)
theorem Ac3(C:Al)(pre:List Ap){st:Int}(h1:3<=st)(h2:st<=6):∃st',3<=st'/\st'<=6/\Jq ⟨cfg C (pre++ [Ty E []]),st⟩ (E.gaps.map (fun g=>Bv (Ed E g)))=some ⟨cfg C (pre++ [Ty E E.gaps]),st'⟩:=by
 have hs:= @Acj E h C pre
 exact Mb (fun g=>Bv (Ed E g)) (· ∈E.gaps) 3 6 (by decide) (fun done=>cfg C (pre++ [Ty E done])) (fun done x st h1 h2 hx=>hs done hx h1 h2) E.gaps [] st h1 h2 (fun x hx=>hx)
theorem Ac5(C:Al)(pre:List Ap){st:Int}(h1:3<=st)(h2:st<=7):∃st',3<=st'/\st'<=7/\Jq ⟨cfg C (pre++ [W8 E []]),st⟩ (E.edges.map (fun g=>Bv (D5 E g)))=some ⟨cfg C (pre++ [W8 E E.edges]),st'⟩:=by
 have hs:= @Acl E h C pre
 exact Mb (fun g=>Bv (D5 E g)) (· ∈E.edges) 3 7 (by decide) (fun done=>cfg C (pre++ [W8 E done])) (fun done x st h1 h2 hx=>hs done hx h1 h2) E.edges [] st h1 h2 (fun x hx=>hx)
theorem Ac4(C:Al)(pre:List Ap){st:Int}(h1:3<=st)(h2:st<=8):∃st',3<=st'/\st'<=8/\Jq ⟨cfg C (pre++ [Z5 E []]),st⟩ (E.first.map (fun g=>Bv (Ev E g)))=some ⟨cfg C (pre++ [Z5 E E.first]),st'⟩:=by
 have hs:= @Ack E h C pre
 exact Mb (fun g=>Bv (Ev E g)) (· ∈E.first) 3 8 (by decide) (fun done=>cfg C (pre++ [Z5 E done])) (fun done x st h1 h2 hx=>hs done hx h1 h2) E.first [] st h1 h2 (fun x hx=>hx)
theorem Ac2(C:Al)(pre:List Ap){st:Int}(h1:3<=st)(h2:st<=9):∃st',3<=st'/\st'<=9/\Jq ⟨cfg C (pre++ [pD E []]),st⟩ (E.last.map (fun g=>Bv (Et E g)))=some ⟨cfg C (pre++ [pD E E.last]),st'⟩:=by
 have hs:= @Aci E h C pre
 exact Mb (fun g=>Bv (Et E g)) (· ∈E.last) 3 9 (by decide) (fun done=>cfg C (pre++ [pD E done])) (fun done x st h1 h2 hx=>hs done hx h1 h2) E.last [] st h1 h2 (fun x hx=>hx)
theorem Afu(C:Al)(pre:List Ap){st:Int}(h1:2<=st):∃st',2<=st'/\Jq ⟨cfg C pre,st⟩ ((B6 E).map Bv)=some ⟨cfg C (pre++ [E]),st'⟩:=by
 have e0:A8 ⟨cfg C pre,st⟩ (Bv [.str J2,.str E.name,.num E.tol])=(0,⟨cfg C (pre++ [Uy E []]),3⟩):=by
  have hw:=(Adx h).w
  have ht:=h.good.tol
  rw[Hk (w0:=J2) (ts:=[E.name,Lc (.num E.tol)]) (k:=3) (fs:=⟨#[115,110]⟩) (n:=[E.tol]) hw (by decide) rfl (by unfold Bi;simp;exact h1)
   (go_sn (G8 h.name) (It (n:=E.tol) (by omega) (by omega)))]
  rfl
 obtain⟨s1,a1,b1,r1⟩:=Ac1 h C pre (st:=3) (by decide) (by decide)
 have r2:∃s2,3<=s2/\s2<=5/\Jq ⟨cfg C (pre++ [Uy E E.points]),s1⟩ ((Ew E).map Bv)=some ⟨cfg C (pre++ [Ty E []]),s2⟩:=by
  by_cases h0:0<=E.count
  ·refine⟨5,by decide,by decide,?_⟩
   unfold Ew
   rw[if_pos h0,List.map_singleton]
   exact kT (Acm h C pre h0 a1 b1)
  ·refine⟨s1,a1,by omega,?_⟩
   unfold Ew
   rw[if_neg h0]
   have hc:E.count= -1:=by have:=h.cnt;omega
   obtain⟨m1,m2⟩:=h.cmm hc
   show some _=some _
   congr 5
   unfold Uy
   cases E
   simp only at hc m1 m2
   simp[hc,m1,m2,Ty]
 obtain⟨s2,a2,b2,r2⟩:=r2
 obtain⟨s3,a3,b3,r3⟩:=Ac3 h C pre a2 (by omega)
 obtain⟨s4,a4,b4,r4⟩:=Ac5 h C pre a3 (by omega)
 obtain⟨s5,a5,b5,r5⟩:=Ac4 h C pre a4 (by omega)
 obtain⟨s6,a6,b6,r6⟩:=Ac2 h C pre a5 (by omega)
 refine⟨s6,by omega,?_⟩
 unfold B6
 rw[List.map_cons,List.map_append,List.map_append,List.map_append,List.map_append,List.map_append,List.map_map,List.map_map,List.map_map,List.map_map,List.map_map]
 refine Po e0 ?_
 have r4:Jq ⟨cfg C (pre++ [Ty E E.gaps]),s3⟩ (E.edges.map (fun g=>Bv (D5 E g)))=some ⟨cfg C (pre++ [W8 E E.edges]),s4⟩:=r4
 have r5:Jq ⟨cfg C (pre++ [W8 E E.edges]),s4⟩ (E.first.map (fun g=>Bv (Ev E g)))=some ⟨cfg C (pre++ [Z5 E E.first]),s5⟩:=r5
 have r6:Jq ⟨cfg C (pre++ [Z5 E E.first]),s5⟩ (E.last.map (fun g=>Bv (Et E g)))=some ⟨cfg C (pre++ [pD E E.last]),s6⟩:=r6
 rw[List.append_assoc,List.append_assoc,List.append_assoc,List.append_assoc]
 exact(Kw _ _ _ r1).trans ((Kw _ _ _ r2).trans ((Kw _ _ _ r3).trans ((Kw _ _ _ r4).trans ((Kw _ _ _ r5).trans r6))))
end
theorem kS(C:Al):∀(L pre:List Ap) {st:Int},2<=st->(∀E∈L,Nv E)->∃st',2<=st'/\Jq ⟨cfg C pre,st⟩ ((L.flatMap B6).map Bv)=some ⟨cfg C (pre++L),st'⟩
 |[],pre,st,h,_=>⟨st,h,by rw[List.append_nil];rfl⟩
 |E::L,pre,st,h,hf=>by
  obtain⟨s1,h1,r1⟩:=Afu (hf E (List.mem_cons_self ..)) C pre h
  obtain⟨s2,h2,r2⟩:=kS C L (pre++ [E]) h1 (fun x hx=>hf x (List.mem_cons_of_mem _ hx))
  refine⟨s2,h2,?_⟩
  rw[List.flatMap_cons,List.map_append,Kw _ _ _ r1,r2,List.append_assoc]
  rfl
def Ld(C:Al):List (List W1):=G2 C++C.ents.flatMap B6
theorem Yd{C:Al}(h:B7 C=(0,-1)):∀E∈C.ents,Nv E:=by
 intro E hE
 obtain⟨i,hi,rfl⟩:=List.mem_iff_getElem.1 hE
 have:=(Cw h).2.2 i hi
 rw[Mp hi]at this
 exact Agc this
theorem xN{C:Al}(h:B7 C=(0,-1)):∀ws∈G2 C,D2 ws:=by
 have hb:=(Cw h).1
 unfold Dt at hb
 rw[decide_eq_false_iff_not]at hb
 intro ws hws
 simp only[G2,List.mem_cons,List.not_mem_nil,or_false]at hws
 rcases hws with rfl|rfl|rfl
 ·exact⟨by simp,Do (Hl (by simp)) (Do (show 0<=C.closed by omega) (Xb (show 0<=C.opn by omega)))⟩
 ·exact⟨by simp,Do (Hl (by simp)) (Xb (show 0<=C.cycle by omega))⟩
 ·exact⟨by simp,Do (Hl (by simp)) (Xb (show 0<=C.delay by omega))⟩
theorem Adw{E:Ap}(h:Nv E):∀ws∈B6 E,D2 ws:=by
 intro ws hws
 unfold B6 at hws
 rcases List.mem_cons.1 hws with rfl|hws
 ·exact Adx h
 simp only[List.mem_append,List.mem_map]at hws
 rcases hws with((((⟨x,hx,rfl⟩|hws)|⟨x,hx,rfl⟩)|⟨x,hx,rfl⟩)|⟨x,hx,rfl⟩)|⟨x,hx,rfl⟩
 ·exact Ads h hx
 ·unfold Ew at hws
  split at hws
  ·next h0=>obtain rfl:=List.mem_singleton.1 hws;exact Adz h h0
  ·cases hws
 ·exact Adu h hx
 ·exact Ady h hx
 ·exact Adv h hx
 ·exact Adt h hx
theorem Ag6{C:Al}(h:B7 C=(0,-1)):∀ws∈Ld C,D2 ws:=by
 intro ws hws
 rcases List.mem_append.1 hws with hws|hws
 ·exact xN h ws hws
 ·obtain⟨E,hE,hw⟩:=List.mem_flatMap.1 hws
  exact Adw (Yd h E hE) ws hw
theorem Ac6{C:Al}(h:B7 C=(0,-1)):Jq RdS.start ((G2 C).map Bv)=some ⟨cfg C [],2⟩:=by
 have hb:=(Cw h).1
 unfold Dt at hb
 rw[decide_eq_false_iff_not]at hb
 have hf:=xN h
 have w1:=(hf [.str Ii,.num C.closed,.num C.opn] (by simp[G2])).w
 have w2:=(hf [.str Je,.num C.cycle] (by simp[G2])).w
 have w3:=(hf [.str N6,.num C.delay] (by simp[G2])).w
 have e1:A8 RdS.start (Bv [.str Ii,.num C.closed,.num C.opn])=(0,⟨⟨C.closed,C.opn,0,0,[]⟩,0⟩):=
  Hk (w0:=Ii) (ts:=[Lc (.num C.closed),Lc (.num C.opn)]) (k:=0) (fs:=⟨#[110,110]⟩) (n:=[C.closed,C.opn]) w1 (by decide) rfl (by decide) (go_nn (It (n:=C.closed) (by omega) (by omega)) (It (n:=C.opn) (by omega) (by omega)))
 have e2:A8 ⟨⟨C.closed,C.opn,0,0,[]⟩,0⟩ (Bv [.str Je,.num C.cycle])=(0,⟨⟨C.closed,C.opn,C.cycle,0,[]⟩,1⟩):=
  Hk (w0:=Je) (ts:=[Lc (.num C.cycle)]) (k:=1) (fs:=⟨#[110]⟩) (n:=[C.cycle]) w2 (by decide) rfl (by show Bi 0 1=true;decide) (go_n (It (n:=C.cycle) (by omega) (by omega)))
 have e3:A8 ⟨⟨C.closed,C.opn,C.cycle,0,[]⟩,1⟩ (Bv [.str N6,.num C.delay])=(0,⟨⟨C.closed,C.opn,C.cycle,C.delay,[]⟩,2⟩):=
  Hk (w0:=N6) (ts:=[Lc (.num C.delay)]) (k:=2) (fs:=⟨#[110]⟩) (n:=[C.delay]) w3 (by decide) rfl (by show Bi 1 2=true;decide) (go_n (It (n:=C.delay) (by omega) (by omega)))
 exact Po e1 (Po e2 (kT e3))
theorem xH(ls:List ByteArray):∀(k:Nat) {st:RdS},k<=ls.length->Jq (Bg ls k) (ls.drop k)=some st->(∀j,k<=j->j<ls.length->B5 ls j=0)/\Bg ls ls.length=st
 |k,st,hk,h=>by
  by_cases he:k=ls.length
  ·subst he
   rw[List.drop_length]at h
   exact⟨fun j h1 h2=>by omega,Option.some.inj h⟩
  ·have hlt:k<ls.length:=by omega
   have hd:ls.getD k ByteArray.empty=ls[k]:=by rw[List.getD_eq_getElem?_getD,List.getElem?_eq_getElem hlt];rfl
   rw[List.drop_eq_getElem_cons hlt]at h
   simp only[Jq]at h
   split at h
   ·next hz=>
    have hn:Bg ls (k+1)=(A8 (Bg ls k) ls[k]).2:=by
     show(A8 (Bg ls k) (ls.getD k ByteArray.empty)).2=_
     rw[hd]
    rw[<-hn]at h
    obtain⟨h1,h2⟩:=xH ls (k+1) (by omega) h
    refine⟨fun j hj hl=>?_,h2⟩
    by_cases hjk:j=k
    ·subst hjk
     unfold B5
     rw[hd];exact hz
    ·exact h1 j (by omega) hl
   ·cases h
 termination_by k=>ls.length-k
theorem gZ(C:Al):Df C=Aq (Ld C):=by
 unfold Df Hm Ld
 rw[B4]
 show Aq _++_=Aq _++_
 congr 1
 unfold Aq
 rw[List.flatMap_assoc]
theorem Ud{C:Al}(h:B7 C=(0,-1)):Ao ⟨(Df C).toArray⟩=(Ld C).map Bv:=by
 have hf:=Ag6 h
 have hne:(Ld C).map Bv≠ []:=by simp[Ld,G2]
 have e1:Df C=((Ld C).map Bv).flatMap (fun s=>s.data.toList++ [10]):=by
  rw[gZ,List.flatMap_map]
  unfold Aq
  have:∀L:List (List W1),(∀ws∈L,D2 ws)->L.flatMap Ca=L.flatMap (fun a=>(Bv a).data.toList++ [10]):=by
   intro L
   induction L with
   |nil=>intro _;rfl
   |cons ws L ih=>
    intro hL
    rw[List.flatMap_cons,List.flatMap_cons,ih (fun x hx=>hL x (List.mem_cons_of_mem _ hx)),(hL ws (List.mem_cons_self ..)).b]
  exact this _ hf
 have e2:=Nm 10 (((Ld C).map Bv).map (·.data.toList)) (by simpa using hne)
 rw[List.flatMap_map]at e2
 rw[<-e1]at e2
 have hsz:(⟨(Df C).toArray⟩:ByteArray).size=(Df C).length:=by simp[ByteArray.size]
 have hlen:1<=(Df C).length:=by rw[e2,List.length_append];simp
 have hcut:C4 ⟨(Df C).toArray⟩=⟨(Cb 10 (((Ld C).map Bv).map (·.data.toList))).toArray⟩:=by
  unfold C4
  rw[if_pos (by show(Df C).toArray.toList.getLast? =_;rw[List.toList_toArray,e2];simp)]
  refine Jh ?_
  rw[ByteArray.data_extract,Array.toList_extract,hsz]
  show List.extract (Df C).toArray.toList 0 _=(Cb 10 _).toArray.toList
  rw[List.toList_toArray,List.toList_toArray,List.extract_eq_take_drop,List.drop_zero]
  conv=>lhs;rw[e2]
  rw[List.length_append,List.length_singleton]
  simp
 unfold Ao
 rw[if_neg (by rw[hsz];omega),hcut]
 refine Kc ?_
 rw[El]
 show Ik 10 (Cb 10 _).toArray.toList=_
 rw[List.toList_toArray]
 exact P2 10 _ (by simpa using hne) (fun p hp=>by
  obtain⟨s,hs,rfl⟩:=List.mem_map.1 hp
  obtain⟨ws,hws,rfl⟩:=List.mem_map.1 hs
  exact(hf ws hws).no)
theorem rK{C:Al}(h:B7 C=(0,-1))(h8:¬8000<(Df C).length):Cg ⟨(Df C).toArray⟩=(C,(0,-1)):=by
 have hsz:(⟨(Df C).toArray⟩:ByteArray).size=(Df C).length:=by simp[ByteArray.size]
 obtain⟨st',h2,hr⟩:=kS C C.ents [] (st:=2) (by decide) (Yd h)
 have hrun:Jq RdS.start ((Ld C).map Bv)=some ⟨C,st'⟩:=by
  unfold Ld
  rw[List.map_append,Kw _ _ _ (Ac6 h),hr]
  rfl
 have hup:=xH ((Ld C).map Bv) 0 (Nat.zero_le _) (st:=⟨C,st'⟩) (by rw[List.drop_zero];exact hrun)
 unfold Cg
 rw[Ud h,hsz,if_neg h8,Ol (fun j hj=>hup.1 j (Nat.zero_le _) hj),if_neg (by decide),hup.2,if_neg (by show ¬st'<2;omega),h,if_neg (by decide)]
end Go.Proofs.YtikehilbmldadaaGreatDoor
