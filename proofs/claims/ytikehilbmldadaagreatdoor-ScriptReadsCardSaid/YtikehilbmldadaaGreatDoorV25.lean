import Derived.Test.YtikehilbmldadaaGreatDoorV19
set_option maxHeartbeats 1000000
set_option linter.unusedVariables false
open Go.Proofs.Tryz Go.Proofs.YtikehilbmldadaaGreatDoor.Tryz
namespace Go.Proofs.YtikehilbmldadaaGreatDoor
section
open Go.RowKit
structure KpX where
 d:Nat
 rb:Nat
 cap:Nat
 rg:Nat
 tb:Nat
 lv:Value
 ve:Value
 vl:Value
 X:List Aw
 ls:List Nat
structure Stp (o o':Nat->Nat) (N:Nat->Prop) (w0 w w':World):Prop where
 kp:Ae (fun b=>N (o b)) w w'
 agree:∀b,b<w.heap.size->o' b=o b
 low:∀b,o' b≠0->w0.heap.size<=b/\b<w'.heap.size
 bel:Below w0.heap.size w0 w'
def Low(o:Nat->Nat)(w0 w:World):Prop:=∀b,o b≠0->w0.heap.size<=b/\b<w.heap.size
def ext(o:Nat->Nat)(a b n:Nat):Nat->Nat:=fun x=>if a<=x/\x<b then n else o x
theorem Py{o:Nat->Nat}{a b n x:Nat}(h:x<a):ext o a b n x=o x:=if_neg (by omega)
theorem Pz{o:Nat->Nat}{a b n x:Nat}(h:a<=x)(h2:x<b):ext o a b n x=n:=if_pos ⟨h,h2⟩
theorem Stp.same{o:Nat->Nat}{N:Nat->Prop}{w0 w w':World}(lo:Low o w0 w)(bl:Below w0.heap.size w0 w)(k:Ae (fun b=>N (o b)) w w')(hN:¬N 0):Stp o o N w0 w w':=
 ⟨k,fun _ _=>rfl,fun b hb=>⟨(lo b hb).1,Nat.lt_of_lt_of_le (lo b hb).2 k.size⟩,bl.trans (k.below bl.size (fun b hb=>by
  have:o b≠0:=fun e=>by rw[e]at hb;exact hN hb
  exact(lo b this).1))⟩
theorem Stp.new{o:Nat->Nat}{N:Nat->Prop}{w0 w w':World}{n:Nat}(lo:Low o w0 w)(bl:Below w0.heap.size w0 w)(k:Ae (fun b=>N (o b)) w w')(hN:¬N 0):Stp o (ext o w.heap.size w'.heap.size n) N w0 w w':=by
 have hs:=bl.size
 have hk:=k.size
 refine⟨k,fun b hb=>Py hb,fun b hb=>?_,(Stp.same lo bl k hN).bel⟩
 by_cases h:w.heap.size<=b/\b<w'.heap.size
 ·omega
 ·unfold ext at hb
  rw[if_neg h]at hb
  have:=lo b hb
  omega
section
variable {o o':Nat->Nat} {N:Nat->Prop} {w0 w w':World}
theorem Stp.get(s:Stp o o' N w0 w w'){b n:Nat}{x:Obj}(hb:w.heap[b]? =some x)(hn:o b=n)(h:¬N n):w'.heap[b]? =some x:=s.kp.get hb (by rw[hn];exact h)
theorem Stp.eq(s:Stp o o' N w0 w w')(lo:Low o w0 w){b n:Nat}(h:o b=n)(hn:n≠0):o' b=n:=by rw[s.agree b (lo b (by rw[h];exact hn)).2,h]
theorem Stp.sl(s:Stp o o' N w0 w w'){n:Nat}{v:Value}{sz k:Nat}{cs:List Value}(hl:Ay (fun b=>o b=n) w v sz cs k)(hn:¬N n):Ay (fun b=>o' b=n) w' v sz cs k:=by
 obtain⟨hl,ao,cap,hv,h1,h2,h3,h4⟩:=hl
 refine⟨hl,ao,cap,hv,h1,h2,h3,fun hp=>?_⟩
 obtain⟨b,off,ha,hR,hb,hc⟩:=h4 hp
 exact⟨b,off,ha,by show o' b=n;rw[s.agree b hb];exact hR,Nat.lt_of_lt_of_le hb s.kp.size,fun k u hu=>by rw[s.kp.cell hb (by simp only[hR];exact hn)];exact hc k u hu⟩
theorem Stp.ents(s:Stp o o' N w0 w w'){n:Nat}{v:Value}{X:List Aw}(h:La (fun b=>o b=n) w v X)(hn:¬N n):La (fun b=>o' b=n) w' v X:=
 ⟨s.sl h.row hn,fun x hx=>⟨s.sl (h.each x hx).p hn,s.sl (h.each x hx).g hn,s.sl (h.each x hx).e hn,s.sl (h.each x hx).f hn,s.sl (h.each x hx).l hn⟩⟩
theorem Stp.cells(s:Stp o o' N w0 w w'){c rb:Nat}{ao:Option Addr}{cap:Nat}{m:CM}(h:A1 w c rb ao cap m)(h3:o c=3)(h4:o rb=4)(n3:¬N 3)(n4:¬N 4):A1 w' c rb ao cap m:=
 h.keep s.kp (fun b hb=>⟨fun e=>by subst e;rw[h3]at hb;exact n3 hb,fun e=>by subst e;rw[h4]at hb;exact n4 hb⟩)
end
def Qn(l s t:Nat)(x:Aw)(w:World):Option C0->Prop
 |none=>w.heap[l]? =some (Jy none x.E x.p x.g x.e x.f x.l)
 |some m=>Fi l s t x.E x.p x.g x.e x.f x.l m w
theorem Fi.le{l s t:Nat}{E:Ap}{vp vg ve vf vl:Value}{m:C0}{w:World}(h:Fi l s t E vp vg ve vf vl m w):t<=w.heap.size:=by
 obtain⟨⟨wb,a,g,f,ro,base,lo,hi,h1,h2⟩,ho⟩:=h
 exact h2.top
theorem Stp.loc{o o':Nat->Nat}{N:Nat->Prop}{w0 w w':World}(s:Stp o o' N w0 w w'){l a t n:Nat}{x:Aw}{m:Option C0}(h:Qn l a t x w m)(hl:o l=10+2*n)(hw:∀b,a<=b->b<t->o b=11+2*n)(n1:¬N (10+2*n))(n2:¬N (11+2*n)):Qn l a t x w' m:=by
 cases m with
 |none=>exact s.get h hl n1
 |some m=>exact h.keep s.kp (by rw[hl];exact n1) (fun b h1 h2=>by rw[hw b h1 h2];exact n2)
theorem Qn.own{o o':Nat->Nat}{N:Nat->Prop}{w0 w w':World}(s:Stp o o' N w0 w w'){l a t n:Nat}{x:Aw}{m:Option C0}(h:Qn l a t x w m)(hw:∀b,a<=b->b<t->o b=11+2*n):∃a' t',(∀b,a'<=b->b<t'->o' b=11+2*n)/\(Qn l a t x w' m->Qn l a' t' x w' m):=by
 cases m with
 |none=>exact⟨0,0,fun b _ h=>by omega,fun h=>h⟩
 |some m=>exact⟨a,t,fun b h1 h2=>by rw[s.agree b (Nat.lt_of_lt_of_le h2 (Fi.le h)),hw b h1 h2],fun h=>h⟩
def Nw(l:List Nat):List Value:=l.map fun b=>.pointer (some ⟨b,0,none⟩)
def kpC(d:Nat)(C:Al)(ve:Value)(c:Nat)(vlog vl vt:Value)(txt:ByteArray):Obj:=
 .cells #[.pointer (some ⟨d,0,none⟩),.int .i64 C.closed,.int .i64 C.opn,.int .i64 C.cycle,.int .i64 C.delay,ve,.pointer (some ⟨c,0,none⟩),vlog,vl,vt,.string txt] 67
theorem Bm{w:World}{kb d:Nat}{C:Al}{ve:Value}{c:Nat}{vlog vl vt:Value}{txt:ByteArray}(h:w.heap[kb]? =some (kpC d C ve c vlog vl vt txt)):
  w.cell? ⟨kb,0,none⟩=some (.pointer (some ⟨d,0,none⟩))/\w.cell? ⟨kb,1,none⟩=some (.int .i64 C.closed)/\w.cell? ⟨kb,2,none⟩=some (.int .i64 C.opn)/\w.cell? ⟨kb,3,none⟩=some (.int .i64 C.cycle)/\w.cell? ⟨kb,4,none⟩=some (.int .i64 C.delay)/\w.cell? ⟨kb,5,none⟩=some ve/\
  w.cell? ⟨kb,6,none⟩=some (.pointer (some ⟨c,0,none⟩))/\w.cell? ⟨kb,7,none⟩=some vlog/\w.cell? ⟨kb,8,none⟩=some vl/\w.cell? ⟨kb,9,none⟩=some vt/\w.cell? ⟨kb,10,none⟩=some (.string txt)/\∀o,w.frozen? ⟨kb,o,none⟩=false:=by
 unfold kpC at h
 simp[World.cell?,World.frozen?,h]
structure KpB (B:Nat) (sa:Nat->Addr) (w0:World) (kb c:Nat) (x:KpX) (C:Al) (D:D3) (m:CM) (o:Nat->Nat) (w:World):Prop where
 se:Eb B sa w
 bel:Below w0.heap.size w0 w
 bl:B<=w0.heap.size
 low:Low o w0 w
 dog:C7 w x.d D
 mem:A1 w c x.rb (some ⟨x.rb,0,none⟩) x.cap m
 ents:La (fun b=>o b=8) w x.ve x.X
 xe:C.ents=x.X.map Aw.E
 ok:o kb=1
 od:o x.d=2
 oc:o c=3
 orb:o x.rb=4
theorem KpB.stp{B:Nat}{sa:Nat->Addr}{w0:World}{kb c:Nat}{x:KpX}{C:Al}{D:D3}{m:CM}{o o':Nat->Nat}{N:Nat->Prop}{w w':World}(h:KpB B sa w0 kb c x C D m o w)(s:Stp o o' N w0 w w')
  (hse:Eb B sa w') (h8:¬N 8) {D':D3} {m':CM} (hd:C7 w' x.d D') (hm:A1 w' c x.rb (some ⟨x.rb,0,none⟩) x.cap m'):KpB B sa w0 kb c x C D' m' o' w':=
 ⟨hse,s.bel,h.bl,s.low,hd,hm,s.ents h.ents h8,h.xe,s.eq h.low h.ok (by decide),s.eq h.low h.od (by decide),s.eq h.low h.oc (by decide),s.eq h.low h.orb (by decide)⟩
theorem KpB.re{B:Nat}{sa:Nat->Addr}{w0:World}{kb c:Nat}{x:KpX}{C:Al}{D:D3}{m:CM}{o:Nat->Nat}{w:World}(h:KpB B sa w0 kb c x C D m o w)(rg tb:Nat)(lv vl:Value)(ls:List Nat):
  KpB B sa w0 kb c ⟨x.d,x.rb,x.cap,rg,tb,lv,x.ve,vl,x.X,ls⟩ C D m o w:=⟨h.se,h.bel,h.bl,h.low,h.dog,h.mem,h.ents,h.xe,h.ok,h.od,h.oc,h.orb⟩
theorem KpB.sen{B:Nat}{sa:Nat->Addr}{w0:World}{kb c:Nat}{x:KpX}{C:Al}{D:D3}{m:CM}{o o':Nat->Nat}{N:Nat->Prop}{w w':World}(h:KpB B sa w0 kb c x C D m o w)(s:Stp o o' N w0 w w')(h0:¬N 0):Eb B sa w':=
 h.se.keep s.kp (fun b hN=>by
   have:o b≠0:=fun e=>by rw[e]at hN;exact h0 hN
   exact Nat.le_trans h.bl (h.low b this).1)
theorem KpB.keep{B:Nat}{sa:Nat->Addr}{w0:World}{kb c:Nat}{x:KpX}{C:Al}{D:D3}{m:CM}{o o':Nat->Nat}{N:Nat->Prop}{w w':World}(h:KpB B sa w0 kb c x C D m o w)(s:Stp o o' N w0 w w')
  (hse:Eb B sa w') (h8:¬N 8) (h2:¬N 2) (h3:¬N 3) (h4:¬N 4):KpB B sa w0 kb c x C D m o' w':=
 h.stp s hse h8 (s.get h.dog h.od h2) (s.cells h.mem h.oc h.orb h3 h4)
structure Bh (B:Nat) (sa:Nat->Addr) (w0:World) (kb c:Nat) (txt:ByteArray) (x:KpX) (M:KpM) (o:Nat->Nat) (w:World):Prop where
 b:KpB B sa w0 kb c x M.C M.D M.m o w
 box:w.heap[kb]? =some (kpC x.d M.C x.ve c (.pointer (some ⟨x.rg,0,none⟩)) x.vl (.pointer (some ⟨x.tb,0,none⟩)) txt)
 rbox:w.heap[x.rg]? =some (Gy c x.lv M.dead)
 rrow:Ay (fun b=>o b=6) w x.lv 4 (M.L.flatMap Ax) M.L.length
 lrow:Ay (fun b=>o b=9) w x.vl 1 (Nw x.ls) x.ls.length
 ll:x.ls.length=x.X.length/\M.A.length=x.X.length
 loc:∀(j l:Nat) (e:Aw),x.ls[j]? =some l->x.X[j]? =some e->o l=10+2*j/\∃a t,(∀b,a<=b->b<t->o b=11+2*j)/\Qn l a t e w (Cq M j)
 tot:Cf w x.tb M.C.delay M.sn M.st
 org:o x.rg=5
 ot:o x.tb=7
section
variable {B:Nat} {sa:Nat->Addr} {w0:World} {kb c:Nat} {txt:ByteArray} {x:KpX} {M:KpM} {o o':Nat->Nat} {N:Nat->Prop} {w w':World}
theorem Bh.len(h:Bh B sa w0 kb c txt x M o w):x.ls.length=M.A.length/\M.C.ents.length=M.A.length:=by
 have:=h.ll
 have h2:=congrArg List.length h.b.xe
 rw[List.length_map]at h2
 omega
theorem Stp.locs(s:Stp o o' N w0 w w')(h:Bh B sa w0 kb c txt x M o w){j l:Nat}{e:Aw}(h1:x.ls[j]? =some l)(h2:x.X[j]? =some e)(n1:¬N (10+2*j))(n2:¬N (11+2*j)):
  o' l=10+2*j/\∃a t,(∀b,a<=b->b<t->o' b=11+2*j)/\Qn l a t e w' (Cq M j):=by
 obtain⟨q1,a,t,q2,q3⟩:=h.loc j l e h1 h2
 obtain⟨a',t',r1,r2⟩:=Qn.own s q3 q2
 exact⟨s.eq h.b.low q1 (by omega),a',t',r1,r2 (s.loc q3 q1 q2 n1 n2)⟩
theorem Bh.far{T:Nat->Prop}(h:Bh B sa w0 kb c txt x M o w)(k:Ae T w w')(hT:∀b,b<w.heap.size->T b->o b=0/\w0.heap.size<=b):Bh B sa w0 kb c txt x M o w':=by
 have s:Stp o o (fun n=>n=0) w0 w w':=⟨k.mono (fun b hb h=>(hT b hb h).1),fun _ _=>rfl,fun b hb=>⟨(h.b.low b hb).1,Nat.lt_of_lt_of_le (h.b.low b hb).2 k.size⟩,
  h.b.bel.trans ((k.mono (fun b hb h=>(hT b hb h).2):Ae (fun b=>w0.heap.size<=b) w w').below h.b.bel.size (fun b hb=>hb))⟩
 have hse:Eb B sa w':=h.b.se.keep (k.mono (fun b hb h=>(hT b hb h).2):Ae (fun b=>w0.heap.size<=b) w w') (fun b hb=>Nat.le_trans h.b.bl hb)
 exact⟨h.b.keep s hse (by decide) (by decide) (by decide) (by decide),s.get h.box h.b.ok (by decide),s.get h.rbox h.org (by decide),s.sl h.rrow (by decide),s.sl h.lrow (by decide),h.ll,
  fun j l e h1 h2=>s.locs h h1 h2 (by omega) (by omega),s.get h.tot h.ot (by decide),h.org,h.ot⟩
theorem Bh.below(h:Bh B sa w0 kb c txt x M o w)(b:Below w.heap.size w w'):Bh B sa w0 kb c txt x M o w':=h.far (Ak b) (fun _ _ h=>h.elim)
theorem Bh.dog'(h:Bh B sa w0 kb c txt x M o w){D':D3}(k:Ae (· =x.d) w w')(hd:C7 w' x.d D'):Bh B sa w0 kb c txt x { M with D:=D'} o w':=by
 have s:Stp o o (fun n=>n=2) w0 w w':=Stp.same h.b.low h.b.bel (k.mono (fun b hb e=>by rw[e];exact h.b.od)) (by decide)
 exact⟨h.b.stp s (h.b.sen s (by decide)) (by decide) hd (s.cells h.b.mem h.b.oc h.b.orb (by decide) (by decide)),s.get h.box h.b.ok (by decide),s.get h.rbox h.org (by decide),s.sl h.rrow (by decide),s.sl h.lrow (by decide),h.ll,
  fun j l e h1 h2=>s.locs h h1 h2 (by omega) (by omega),s.get h.tot h.ot (by decide),h.org,h.ot⟩
theorem Bh.cell'(h:Bh B sa w0 kb c txt x M o w){m':CM}(k:Ae (· =c) w w')(hm:A1 w' c x.rb (some ⟨x.rb,0,none⟩) x.cap m'):Bh B sa w0 kb c txt x { M with m:=m'} o w':=by
 have s:Stp o o (fun n=>n=3) w0 w w':=Stp.same h.b.low h.b.bel (k.mono (fun b hb e=>by rw[e];exact h.b.oc)) (by decide)
 exact⟨h.b.stp s (h.b.sen s (by decide)) (by decide) (s.get h.b.dog h.b.od (by decide)) hm,s.get h.box h.b.ok (by decide),s.get h.rbox h.org (by decide),s.sl h.rrow (by decide),s.sl h.lrow (by decide),h.ll,
  fun j l e h1 h2=>s.locs h h1 h2 (by omega) (by omega),s.get h.tot h.ot (by decide),h.org,h.ot⟩
theorem Bh.tot'(h:Bh B sa w0 kb c txt x M o w){sn':Int}{st':St}(k:Ae (· =x.tb) w w')(ht:Cf w' x.tb M.C.delay sn' st'):Bh B sa w0 kb c txt x { M with sn:=sn',st:=st'} o w':=by
 have s:Stp o o (fun n=>n=7) w0 w w':=Stp.same h.b.low h.b.bel (k.mono (fun b hb e=>by rw[e];exact h.ot)) (by decide)
 exact⟨h.b.keep s (h.b.sen s (by decide)) (by decide) (by decide) (by decide) (by decide),s.get h.box h.b.ok (by decide),s.get h.rbox h.org (by decide),s.sl h.rrow (by decide),s.sl h.lrow (by decide),h.ll,
  fun j l e h1 h2=>s.locs h h1 h2 (by omega) (by omega),ht,h.org,h.ot⟩
theorem Ay.reR{R R':Nat->Prop}{w:World}{v:Value}{sz n:Nat}{cs:List Value}(h:Ay R w v sz cs n)(hd:∀b,v.ownBlock=some b->0<cs.length->R' b):Ay R' w v sz cs n:=by
 obtain⟨hl,ao,cap,hv,h1,h2,h3,h4⟩:=h
 refine⟨hl,ao,cap,hv,h1,h2,h3,fun hp=>?_⟩
 obtain⟨b,off,ha,hR,hb,hc⟩:=h4 hp
 exact⟨b,off,ha,hd b (by rw[hv,ha];rfl) hp,hb,hc⟩
theorem Ay.inR{R:Nat->Prop}{w:World}{v:Value}{sz n:Nat}{cs:List Value}(h:Ay R w v sz cs n){b:Nat}(hb:v.ownBlock=some b)(hp:0<cs.length):R b/\b<w.heap.size:=by
 obtain⟨hl,ao,cap,hv,h1,h2,h3,h4⟩:=h
 obtain⟨b',off,ha,hR,hl,_⟩:=h4 hp
 rw[hv,ha]at hb
 obtain rfl:=Option.some.inj hb
 exact⟨hR,hl⟩
theorem Ay.many{R:Nat->Prop}{w:World}{v:Value}{sz n:Nat}{cs:List Value}(h:Ay R w v sz cs n){S:Nat->Prop}{w':World}{sz' n':Nat}{cs':List Value}(h':Ay S w' v sz' cs' n'):n=n':=by
 obtain⟨_,ao,cap,hv,_⟩:=h
 obtain⟨_,ao',cap',hv',_⟩:=h'
 rw[hv]at hv'
 injection hv'
theorem Bh.rst(h:Bh B sa w0 kb c txt x M o w):RSt B sa w0 x.rg c x.rb x.cap M.m M.dead M.L x.lv w:=by
 have h3:=h.b.oc
 have h4:=h.b.orb
 have h5:=h.org
 refine⟨⟨h.rbox,h.rrow.mono (fun b hb=>?_)⟩,h.b.mem,h.b.se,h.b.bel,(h.b.low c (by omega)).1,(h.b.low x.rb (by omega)).1,(h.b.low x.rg (by omega)).1,h.b.bl,fun e=>?_,fun e=>?_⟩
 ·have hb':o b=6:=hb
  refine⟨fun e=>?_,fun e=>?_,fun e=>?_⟩
  ·rw[e]at hb';omega
  ·rw[e]at hb';omega
  ·rw[e]at hb';omega
 ·rw[e]at h5;omega
 ·rw[e]at h5;omega
structure Fr (o o':Nat->Nat) (w w':World):Prop where
 kp:Ae (fun b=>o b≠0) w w'
 agree:∀b,b<w.heap.size->o' b=o b
theorem Fr.refl(o:Nat->Nat)(w:World):Fr o o w w:=⟨Ae.refl _ _,fun _ _=>rfl⟩
theorem Fr.trans{o1 o2 o3:Nat->Nat}{w1 w2 w3:World}(h:Fr o1 o2 w1 w2)(k:Fr o2 o3 w2 w3):Fr o1 o3 w1 w3:=
 ⟨h.kp.step k.kp (fun b hb hl=>by rw[<-h.agree b hl];exact hb),fun b hb=>by rw[k.agree b (Nat.lt_of_lt_of_le hb h.kp.size),h.agree b hb]⟩
theorem Fr.below(o:Nat->Nat){w w':World}(b:Below w.heap.size w w'):Fr o o w w':=⟨(Ak b).mono (fun _ _ h=>h.elim),fun _ _=>rfl⟩
theorem Stp.fr(s:Stp o o' N w0 w w')(h0:¬N 0):Fr o o' w w':=⟨s.kp.mono (fun b _ hb e=>by rw[e]at hb;exact h0 hb),s.agree⟩
theorem Fr.of{T:Nat->Prop}(k:Ae T w w')(hT:∀b,T b->o b≠0):Fr o o w w':=⟨k.mono (fun b _ hb=>hT b hb),fun _ _=>rfl⟩
theorem Bh.app(h:Bh B sa w0 kb c txt x M o w){m':CM}{dead':Bool}{L':List Ar}{lv':Value}(h':RSt B sa w0 x.rg c x.rb x.cap m' dead' L' lv' w')
  (k:Ae (fun b=>b=c\/b=x.rb\/b=x.rg\/w.heap.size<=b) w w') (hv:lv'=x.lv\/Agi w w' lv'):
  ∃o',Bh B sa w0 kb c txt { x with lv:=lv'} { M with m:=m',dead:=dead',L:=L'} o' w'/\Fr o o' w w':=by
 have s:Stp o (ext o w.heap.size w'.heap.size 6) (fun n=>n=3\/n=4\/n=5) w0 w w':=Stp.new h.b.low h.b.bel (k.mono (fun b hb e=>by
  rcases e with e|e|e|e
  ·rw[e];exact .inl h.b.oc
  ·rw[e];exact .inr (.inl h.b.orb)
  ·rw[e];exact .inr (.inr h.org)
  ·omega)) (by decide)
 refine⟨_,⟨(h.b.stp s (h.b.sen s (by decide)) (by decide) (s.get h.b.dog h.b.od (by decide)) h'.mem).re _ _ _ _ _,s.get h.box h.b.ok (by decide),h'.ring.box,h'.ring.row.reR (fun b hb hp=>?_),s.sl h.lrow (by decide),h.ll,
  fun j l e h1 h2=>s.locs h h1 h2 (by omega) (by omega),s.get h.tot h.ot (by decide),s.eq h.b.low h.org (by decide),s.eq h.b.low h.ot (by decide)⟩,s.fr (by decide)⟩
 rcases hv with hv|hv
 ·have hm:=h.rrow.many (hv▸h'.ring.row)
  have hp':0<(M.L.flatMap Ax).length:=by rw[Mo]at hp ⊢;omega
  rw[hv]at hb
  exact s.eq h.b.low (h.rrow.inR hb hp').1 (by decide)
 ·have:=hv b hb
  exact Pz this.1 this.2
theorem Aay{M:KpM}{j i:Nat}{a:Option C0}(hj:j<M.A.length):Cq (Ge M j a) i=if i=j then a else Cq M i:=by
 unfold Cq Ge
 rw[List.getD_eq_getElem?_getD,List.getD_eq_getElem?_getD,List.getElem?_set]
 by_cases e:i=j
 ·subst e;rw[if_pos rfl,if_pos hj,if_pos rfl];rfl
 ·rw[if_neg (fun h=>e h.symm),if_neg e]
theorem Zz{α:Type}{l:List α}{j:Nat}{y:α}(h:l[j]? =some y):j<l.length:=(List.getElem?_eq_some_iff.1 h).1
theorem Bh.locset(h:Bh B sa w0 kb c txt x M o w){j l:Nat}{e:Aw}(h1:x.ls[j]? =some l)(h2:x.X[j]? =some e){a:Option C0}(s:Stp o o' N w0 w w')(n0:¬N 0)(hN:∀n,N n->n=10+2*j\/n=11+2*j)
  (hl:∃p t,(∀b,p<=b->b<t->o' b=11+2*j)/\Qn l p t e w' a):Bh B sa w0 kb c txt x (Ge M j a) o' w':=by
 have hf:∀n,n<10->¬N n:=fun n hn hh=>by have:=hN n hh;omega
 refine⟨h.b.keep s (h.b.sen s n0) (hf _ (by decide)) (hf _ (by decide)) (hf _ (by decide)) (hf _ (by decide)),s.get h.box h.b.ok (hf _ (by decide)),s.get h.rbox h.org (hf _ (by decide)),s.sl h.rrow (hf _ (by decide)),s.sl h.lrow (hf _ (by decide)),?_,
  fun i l' e' h3 h4=>?_,s.get h.tot h.ot (hf _ (by decide)),s.eq h.b.low h.org (by decide),s.eq h.b.low h.ot (by decide)⟩
 ·refine⟨h.ll.1,?_⟩
  show(M.A.set j a).length=_
  rw[List.length_set];exact h.ll.2
 ·have hj:j<M.A.length:=by have:=Zz h2;have:=h.ll;omega
  rw[Aay hj]
  by_cases e1:i=j
  ·subst e1
   rw[h1]at h3;rw[h2]at h4
   obtain rfl:=Option.some.inj h3
   obtain rfl:=Option.some.inj h4
   rw[if_pos rfl]
   exact⟨s.eq h.b.low (h.loc i l e h1 h2).1 (by omega),hl⟩
  ·rw[if_neg e1]
   exact s.locs h h3 h4 (fun hh=>by have:=hN _ hh;omega) (fun hh=>by have:=hN _ hh;omega)
theorem Bh.watch(h:Bh B sa w0 kb c txt x M o w){j l p t:Nat}{e:Aw}(h1:x.ls[j]? =some l)(h2:x.X[j]? =some e)(hw:∀b,p<=b->b<t->o b=11+2*j){a:C0}
  (k:Ae (fun b=>p<=b/\b<t) w w') (hl:Fi l p t e.E e.p e.g e.e e.f e.l a w'):Bh B sa w0 kb c txt x (Ge M j (some a)) o w'/\Fr o o w w':=by
 have s:Stp o o (fun n=>n=11+2*j) w0 w w':=Stp.same h.b.low h.b.bel (k.mono (fun b hb e=>hw b e.1 e.2)) (by omega)
 exact⟨h.locset h1 h2 s (by omega) (fun n hn=>.inr hn) ⟨p,t,hw,hl⟩,s.fr (by omega)⟩
theorem Bh.stop(h:Bh B sa w0 kb c txt x M o w){j l:Nat}{e:Aw}(h1:x.ls[j]? =some l)(h2:x.X[j]? =some e)
  (k:Ae (· =l) w w') (hl:w'.heap[l]? =some (Jy none e.E e.p e.g e.e e.f e.l)):Bh B sa w0 kb c txt x (Ge M j none) o w'/\Fr o o w w':=by
 have s:Stp o o (fun n=>n=10+2*j) w0 w w':=Stp.same h.b.low h.b.bel (k.mono (fun b hb e=>by rw[e];exact(h.loc j l _ h1 h2).1)) (by omega)
 exact⟨h.locset h1 h2 s (by omega) (fun n hn=>.inl hn) ⟨0,0,fun b _ h=>by omega,hl⟩,s.fr (by omega)⟩
theorem Bh.begin(h:Bh B sa w0 kb c txt x M o w){j l t:Nat}{e:Aw}(h1:x.ls[j]? =some l)(h2:x.X[j]? =some e){a:C0}
  (k:Ae (· =l) w w') (hl:Fi l w.heap.size t e.E e.p e.g e.e e.f e.l a w'):∃o',Bh B sa w0 kb c txt x (Ge M j (some a)) o' w'/\Fr o o' w w':=by
 have s:Stp o (ext o w.heap.size w'.heap.size (11+2*j)) (fun n=>n=10+2*j) w0 w w':=Stp.new h.b.low h.b.bel (k.mono (fun b hb e=>by rw[e];exact(h.loc j l _ h1 h2).1)) (by omega)
 exact⟨_,h.locset h1 h2 s (by omega) (fun n hn=>.inl hn) ⟨w.heap.size,t,fun b h3 h4=>Pz h3 (Nat.lt_of_lt_of_le h4 hl.le),hl⟩,s.fr (by omega)⟩
end
end
section
open Go.RowKit
section
variable {B:Nat} {sa:Nat->Addr} {w0:World} {kb c:Nat} {txt:ByteArray} {x:KpX} {M:KpM} {o:Nat->Nat} {w:World}
theorem Rp(h:Bh B sa w0 kb c txt x M o w):Calls Tryz.prog 83 #[.pointer (some ⟨kb,0,none⟩)] w fun e w'=>e=.returned (errv sa (Jz M))/\w=w':=by
 obtain⟨k0,k1,k2,k3,k4,k5,k6,k7,k8,k9,k10,kf⟩:=Bm h.box
 obtain⟨_,_,_,_,_,_,_,s7,_,_,s10⟩:=h.b.se.all
 have HP:=Aia (Pa c x.rb _ x.cap M.m w h.b.mem)
 have HR:=Aia (Kg x.d M.D w h.b.dog)
 clear h k1 k2 k3 k4 k5 k7 k8 k9 k10 kf
 unfold Jz
 cases hx:M.m.off
 ·rw[hx]at HP
  cases hr:M.D.reset
  ·rw[hr]at HR
   go_enter func83,ntmps83
   go_wp2_with fail
   refine HP.out.mono ?_
   rintro e w1 ⟨rfl,rfl⟩
   go_wp2_with fail
   refine HR.out.mono ?_
   rintro e w1 ⟨rfl,rfl⟩
   go_wp2_with fail
   go_ret
   exact⟨rfl,rfl⟩
  ·rw[hr]at HR
   go_enter func83,ntmps83
   go_wp2_with fail
   refine HP.out.mono ?_
   rintro e w1 ⟨rfl,rfl⟩
   go_wp2_with fail
   refine HR.out.mono ?_
   rintro e w1 ⟨rfl,rfl⟩
   go_wp2_with fail
   go_ret
   exact⟨rfl,rfl⟩
 ·rw[hx]at HP
  go_enter func83,ntmps83
  go_wp2_with fail
  refine HP.out.mono ?_
  rintro e w1 ⟨rfl,rfl⟩
  go_wp2_with fail
  go_ret
  exact⟨rfl,rfl⟩
theorem Bh.row(h:Bh B sa w0 kb c txt x M o w):∃ao cap,x.vl=.slice ao M.A.length cap/\M.A.length<=cap/\cap<=maxLen/\
  ∀j,j<M.A.length->∃b off l e,ao=some ⟨b,off,none⟩/\w.cell? ⟨b,off+j,none⟩=some (.pointer (some ⟨l,0,none⟩))/\x.ls[j]? =some l/\x.X[j]? =some e/\Cy M j=e.E:=by
 have hl:=h.len
 have hx:=h.ll
 have he:=h.b.xe
 obtain⟨h0,ao,cap,hv,h1,h2,h3,h4⟩:=h.lrow
 refine⟨ao,cap,by rw[hv,hl.1],by omega,h2,fun j hj=>?_⟩
 have hp:(Nw x.ls).length=x.ls.length:=by simp[Nw]
 obtain⟨b,off,ha,_,_,hc⟩:=h4 (by omega)
 have g1:x.ls[j]? =some x.ls[j]:=List.getElem?_eq_getElem (by omega)
 have g2:x.X[j]? =some (x.X[j]'(by omega)):=List.getElem?_eq_getElem (by omega)
 refine⟨b,off,x.ls[j],x.X[j]'(by omega),ha,hc j _ ?_,g1,g2,?_⟩
 ·unfold Nw
  rw[List.getElem?_map,g1];rfl
 ·unfold Cy
  rw[he,List.getD_eq_getElem?_getD,List.getElem?_map,g2];rfl
theorem Ne(h:Bh B sa w0 kb c txt x M o w)(i:Int)(hi:Hb M i≠0):
  Calls Tryz.prog 48 #[.pointer (some ⟨kb,0,none⟩),.int .i64 i] w fun e w'=>e=.returned (.tuple #[.pointer none,errv sa (Hb M i)])/\Below w.heap.size w w':=by
 obtain⟨k0,k1,k2,k3,k4,k5,k6,k7,k8,k9,k10,kf⟩:=Bm h.box
 obtain⟨_,_,_,_,s4,_⟩:=h.b.se.all
 obtain⟨ao,cap,hv,hc1,hc2,_⟩:=h.row
 rw[hv]at k8
 have HO:=Aia (Rp h)
 clear h hv k0 k1 k2 k3 k4 k5 k6 k7 k9 k10 kf
 unfold Hb at hi ⊢
 by_cases h0:Jz M=0
 ·rw[h0]at HO
  rw[h0,if_neg (by decide)]at hi ⊢
  by_cases hb:i<0\/(M.A.length:Int)<=i
  ·rw[if_pos hb]
   clear hi h0
   by_cases hn:i<0
   ·clear hb
    go_enter func48,ntmps48
    go_wp2_with fail
    refine HO.out.mono ?_
    rintro e w1 ⟨rfl,rfl⟩
    rw[Ds]
    go_wp2_with fail
    go_quiet (fail)
    go_wp2_with fail
    go_ret2
    exact⟨rfl,Ag _ (Below.refl _ _)⟩
   ·have hb':(M.A.length:Int)<=i:=by omega
    clear hb
    go_enter func48,ntmps48
    go_wp2_with fail
    refine HO.out.mono ?_
    rintro e w1 ⟨rfl,rfl⟩
    rw[Ds]
    go_wp2_with fail
    go_quiet (fail)
    go_wp2_with fail
    go_ret2
    exact⟨rfl,Ag _ (Below.refl _ _)⟩
  ·rw[if_neg hb]at hi
   exact absurd rfl hi
 ·rw[if_pos h0]
  obtain⟨q,hq⟩:∃q,Jz M=q+1:=⟨Jz M-1,by omega⟩
  rw[hq]at HO ⊢
  clear hi h0
  go_enter func48,ntmps48
  go_wp2_with fail
  refine HO.out.mono ?_
  rintro e w1 ⟨rfl,rfl⟩
  rw[D4]
  go_wp2_with fail
  go_ret2
  exact⟨rfl,Below.refl _ _⟩
theorem Oo(h:Bh B sa w0 kb c txt x M o w)(i:Int)(hi:¬Hb M i≠0):
  Calls Tryz.prog 48 #[.pointer (some ⟨kb,0,none⟩),.int .i64 i] w fun e w'=>∃l y,e=.returned (.tuple #[.pointer (some ⟨l,0,none⟩),.nilIface])/\x.ls[i.toNat]? =some l/\x.X[i.toNat]? =some y/\Cy M i.toNat=y.E/\w=w':=by
 obtain⟨k0,k1,k2,k3,k4,k5,k6,k7,k8,k9,k10,kf⟩:=Bm h.box
 obtain⟨ao,cap,hv,hc1,hc2,hr⟩:=h.row
 rw[hv]at k8
 have HO:=Aia (Rp h)
 unfold Hb at hi
 by_cases h0:Jz M=0
 ·rw[h0]at HO
  rw[h0,if_neg (by decide)]at hi
  by_cases hb:i<0\/(M.A.length:Int)<=i
  ·rw[if_pos hb]at hi
   exact absurd (by decide) hi
  ·obtain⟨n,rfl⟩:=Int.eq_ofNat_of_zero_le (show 0<=i by omega)
   have hn:n<M.A.length:=by omega
   obtain⟨b,off,l,y,rfl,q1,q2,q3,q4⟩:=hr n hn
   have Q:=Aia (show x.ls[((n:Int)).toNat]? =some l/\x.X[((n:Int)).toNat]? =some y/\Cy M ((n:Int)).toNat=y.E by rw[Int.toNat_natCast];exact⟨q2,q3,q4⟩)
   have hn2:(n:Int)<M.A.length:=by omega
   clear h hv hb hi h0 q2 q3 q4 hr k0 k1 k2 k3 k4 k5 k6 k7 k9 k10 kf
   go_enter func48,ntmps48
   go_wp2_with fail
   refine HO.out.mono ?_
   rintro e w1 ⟨rfl,rfl⟩
   rw[Ds]
   go_wp2_with fail
   go_ret2
   exact⟨l,y,rfl,Q.out.1,Q.out.2.1,Q.out.2.2,rfl⟩
 ·rw[if_pos h0]at hi
  exact absurd h0 hi
end
end
section
open Go.RowKit
section
variable {B:Nat} {sa:Nat->Addr} {w0:World} {kb c:Nat} {txt:ByteArray} {x:KpX} {M:KpM} {o:Nat->Nat} {w:World} {T:Nat}
def Ec(B:Nat)(sa:Nat->Addr)(w0:World)(kb c:Nat)(txt:ByteArray)(r:Nat × KpM)(o:Nat->Nat)(w:World)(e:Ending)(w':World):Prop:=
 e=.returned (errv sa r.1)/\∃x' o',Bh B sa w0 kb c txt x' r.2 o' w'/\Fr o o' w w'
theorem Bh.light(h:Bh B sa w0 kb c txt x M o w)(hO:B8 M T){j:Nat}{y:Aw}(hy:x.X[j]? =some y):Yr y.E/\Ih (fun b=>o b=8) w y.E y.p y.g y.e y.f y.l:=by
 have hm:=List.mem_of_getElem? hy
 exact⟨hO.small _ (by rw[h.b.xe];exact List.mem_map_of_mem hm),h.b.ents.each y hm⟩
theorem Bh.in8(h:Bh B sa w0 kb c txt x M o w):∀b,(fun b=>o b=8) b->b<w.heap.size:=fun b hb=>(h.b.low b (by have:o b=8:=hb;omega)).2
theorem pP(h:Bh B sa w0 kb c txt x M o w)(hO:B8 M T)(i:Int):
  Calls Tryz.prog 20 #[.pointer (some ⟨kb,0,none⟩),.int .i64 i] w (Ec B sa w0 kb c txt (Kd M i) o w):=by
 unfold Ec
 have H:=Aia h
 have HOk:=Aia hO
 by_cases hi:Hb M i≠0
 ·have HE:=Aia (Ne h i hi)
  unfold Kd
  rw[if_pos hi]
  obtain⟨q,hq⟩:∃q,Hb M i=q+1:=⟨Hb M i-1,by omega⟩
  rw[hq]at HE ⊢
  clear h hO hi hq
  go_enter func20,ntmps20
  go_wp2_with fail
  refine HE.out.mono ?_
  rintro e w1 ⟨rfl,b1⟩
  rw[D4]
  go_wp2_with fail
  go_ret
  exact⟨rfl,x,o,H.out.below b1,Fr.below o b1⟩
 ·have HE:=Aia (Oo h i hi)
  unfold Kd
  rw[if_neg hi]
  have s9:=h.b.se.gl 9 (by decide)
  clear h hO hi
  cases ha:Cq M i.toNat with
  |none=>
   have HA:=Aia ha
   clear ha
   go_enter func20,ntmps20
   go_wp2_with fail
   refine HE.out.mono ?_
   rintro e w1 ⟨l,y,rfl,q1,q2,q3,rfl⟩
   obtain⟨p1,a,t,p2,p3⟩:=H.out.loc _ l y q1 q2
   rw[HA.out]at p3
   obtain⟨hL,hS⟩:=H.out.light HOk.out q2
   have HB:=Aia (U9 _ l y.E y.p y.g y.e y.f y.l w p3 hS H.out.in8 hL)
   have Q:=Aia (And.intro q1 (And.intro q2 q3))
   clear p1 p2 p3 hL hS q1 q2 q3
   go_wp2_with fail
   refine HB.out.mono ?_
   rintro e w2 ⟨rfl,t',r1,r2⟩
   obtain⟨o',z1,z2⟩:=H.out.begin Q.out.1 Q.out.2.1 r2 r1
   rw[<-Q.out.2.2]at z1
   have Z:=Aia (And.intro z1 z2)
   clear r1 r2 z1 z2
   go_wp2_with fail
   go_ret
   exact⟨rfl,x,o',Z.out.1,Z.out.2⟩
  |some m=>
   have HA:=Aia ha
   clear ha
   go_enter func20,ntmps20
   go_wp2_with fail
   refine HE.out.mono ?_
   rintro e w1 ⟨l,y,rfl,q1,q2,q3,rfl⟩
   obtain⟨p1,a,t,p2,p3⟩:=H.out.loc _ l y q1 q2
   rw[HA.out]at p3
   have HB:=Aia (Tw l a t y.E y.p y.g y.e y.f y.l _ m w p3 s9)
   clear p1 p2 p3 q1 q2 q3
   go_wp2_with fail
   refine HB.out.mono ?_
   rintro e w2 ⟨rfl,rfl⟩
   go_wp2_with fail
   go_ret
   exact⟨rfl,x,o,H.out,Fr.refl _ _⟩
theorem tY(h:Bh B sa w0 kb c txt x M o w)(hO:B8 M T)(i:Int):
  Calls Tryz.prog 21 #[.pointer (some ⟨kb,0,none⟩),.int .i64 i] w (Ec B sa w0 kb c txt (Nd M i) o w):=by
 unfold Ec
 have H:=Aia h
 have HOk:=Aia hO
 by_cases hi:Hb M i≠0
 ·have HE:=Aia (Ne h i hi)
  unfold Nd
  rw[if_pos hi]
  obtain⟨q,hq⟩:∃q,Hb M i=q+1:=⟨Hb M i-1,by omega⟩
  rw[hq]at HE ⊢
  clear h hO hi hq
  go_enter func21,ntmps21
  go_wp2_with fail
  refine HE.out.mono ?_
  rintro e w1 ⟨rfl,b1⟩
  rw[D4]
  go_wp2_with fail
  go_ret
  exact⟨rfl,x,o,H.out.below b1,Fr.below o b1⟩
 ·have HE:=Aia (Oo h i hi)
  unfold Nd
  rw[if_neg hi]
  have s8:=h.b.se.gl 8 (by decide)
  clear h hO hi
  cases ha:Cq M i.toNat with
  |none=>
   have HA:=Aia ha
   clear ha
   go_enter func21,ntmps21
   go_wp2_with fail
   refine HE.out.mono ?_
   rintro e w1 ⟨l,y,rfl,q1,q2,q3,rfl⟩
   obtain⟨p1,a,t,p2,p3⟩:=H.out.loc _ l y q1 q2
   rw[HA.out]at p3
   have HB:=Aia (U7 l y.E y.p y.g y.e y.f y.l _ w p3 s8)
   clear p1 p2 p3 q1 q2 q3
   go_wp2_with fail
   refine HB.out.mono ?_
   rintro e w2 ⟨rfl,rfl⟩
   go_wp2_with fail
   go_ret
   exact⟨rfl,x,o,H.out,Fr.refl _ _⟩
  |some m=>
   have HA:=Aia ha
   clear ha
   go_enter func21,ntmps21
   go_wp2_with fail
   refine HE.out.mono ?_
   rintro e w1 ⟨l,y,rfl,q1,q2,q3,rfl⟩
   obtain⟨p1,a,t,p2,p3⟩:=H.out.loc _ l y q1 q2
   rw[HA.out]at p3
   have HB:=Aia (Ww l a t y.E y.p y.g y.e y.f y.l m w p3)
   have Q:=Aia (And.intro q1 q2)
   clear p1 p2 p3 q1 q2 q3
   go_wp2_with fail
   refine HB.out.mono ?_
   rintro e w2 ⟨rfl,r1,r2⟩
   have Z:=Aia (H.out.stop Q.out.1 Q.out.2 r2 r1)
   clear r1 r2
   go_wp2_with fail
   go_ret
   exact⟨rfl,x,o,Z.out.1,Z.out.2⟩
theorem Zs(h:Bh B sa w0 kb c txt x M o w)(hO:B8 M T)(i p:Int):
  Calls Tryz.prog 22 #[.pointer (some ⟨kb,0,none⟩),.int .i64 i,.int .i64 p] w (Ec B sa w0 kb c txt (Ix M i p) o w):=by
 unfold Ec
 have H:=Aia h
 have HOk:=Aia hO
 obtain⟨k0,k1,k2,k3,k4,k5,k6,k7,k8,k9,k10,kf⟩:=Bm h.box
 clear k1 k2 k3 k4 k5 k6 k7 k8 k9 k10 kf
 by_cases hi:Hb M i≠0
 ·have HE:=Aia (Ne h i hi)
  unfold Ix
  rw[if_pos hi]
  obtain⟨q,hq⟩:∃q,Hb M i=q+1:=⟨Hb M i-1,by omega⟩
  rw[hq]at HE ⊢
  clear h hO hi hq k0
  go_enter func22,ntmps22
  go_wp2_with fail
  refine HE.out.mono ?_
  rintro e w1 ⟨rfl,b1⟩
  rw[D4]
  go_wp2_with fail
  go_ret
  exact⟨rfl,x,o,H.out.below b1,Fr.below o b1⟩
 ·have HE:=Aia (Oo h i hi)
  have HN:=Aia (Nt x.d M.D w h.b.dog)
  unfold Ix
  rw[if_neg hi]
  have s8:=h.b.se.gl 8 (by decide)
  have s4:=h.b.se.gl 4 (by decide)
  clear h hO hi
  cases ha:Cq M i.toNat with
  |none=>
   have HA:=Aia ha
   clear ha
   go_enter func22,ntmps22
   go_wp2_with fail
   refine HE.out.mono ?_
   rintro e w1 ⟨l,y,rfl,q1,q2,q3,rfl⟩
   obtain⟨p1,a,t,p2,p3⟩:=H.out.loc _ l y q1 q2
   rw[HA.out]at p3
   have HB:=Aia (Sn l y.E y.p y.g y.e y.f y.l _ p M.D.now w p3 s8)
   clear p1 p2 p3 q1 q2 q3
   go_wp2_with fail
   refine HN.out.mono ?_
   rintro e w2 ⟨rfl,rfl⟩
   go_wp2_with fail
   refine HB.out.mono ?_
   rintro e w2 ⟨rfl,rfl⟩
   go_wp2_with fail
   go_ret
   exact⟨rfl,x,o,H.out,Fr.refl _ _⟩
  |some m=>
   have HA:=Aia ha
   clear ha
   by_cases hp:p<0\/((Cy M i.toNat).points.length:Int)<=p
   ·have HP:=Aia hp
    simp only[hp,if_true]
    clear hp
    go_enter func22,ntmps22
    go_wp2_with fail
    refine HE.out.mono ?_
    rintro e w1 ⟨l,y,rfl,q1,q2,q3,rfl⟩
    obtain⟨p1,a,t,p2,p3⟩:=H.out.loc _ l y q1 q2
    rw[HA.out]at p3
    have p4:Fi l a t y.E y.p y.g y.e y.f y.l m w:=p3
    obtain⟨pa,pc,hpv⟩:=(H.out.b.ents.each y (List.mem_of_getElem? q2)).p.val
    rw[hpv]at p4
    have HPp:=HP.out
    rw[q3]at HPp
    have HB:=Aia (Tv l a t y.E pa pc y.g y.e y.f y.l _ m p M.D.now w p4 HPp s4)
    clear p1 p2 p3 p4 q1 q2 q3 hpv HPp
    go_wp2_with fail
    refine HN.out.mono ?_
    rintro e w2 ⟨rfl,rfl⟩
    go_wp2_with fail
    refine HB.out.mono ?_
    rintro e w2 ⟨rfl,rfl⟩
    go_wp2_with fail
    go_ret
    exact⟨rfl,x,o,H.out,Fr.refl _ _⟩
   ·have HP:=Aia hp
    simp only[hp,if_false]
    clear hp
    go_enter func22,ntmps22
    go_wp2_with fail
    refine HE.out.mono ?_
    rintro e w1 ⟨l,y,rfl,q1,q2,q3,rfl⟩
    obtain⟨p1,a,t,p2,p3⟩:=H.out.loc _ l y q1 q2
    rw[HA.out]at p3
    have p4:Fi l a t y.E y.p y.g y.e y.f y.l m w:=p3
    obtain⟨pa,pc,hpv⟩:=(H.out.b.ents.each y (List.mem_of_getElem? q2)).p.val
    rw[hpv]at p4
    have HPp:=HP.out
    rw[q3]at HPp
    have hd:=HOk.out.dog
    have HB:=Aia (U8 l a t y.E pa pc y.g y.e y.f y.l m p M.D.now w p4 (by omega) (by omega) (by have:=hd.l0;have:=hd.ln;omega) hd.n1)
    have Q:=Aia (And.intro q1 (And.intro q2 (And.intro q3 (And.intro p2 hpv))))
    clear p1 p2 p3 p4 q1 q2 q3 hpv HPp hd
    go_wp2_with fail
    refine HN.out.mono ?_
    rintro e w2 ⟨rfl,rfl⟩
    go_wp2_with fail
    refine HB.out.mono ?_
    rintro e w2 ⟨rfl,r1,r2⟩
    rw[<-Q.out.2.2.2.2]at r1
    have z:=H.out.watch Q.out.1 Q.out.2.1 Q.out.2.2.2.1 r2 r1
    rw[<-Q.out.2.2.1]at z
    have Z:=Aia z
    clear r1 r2 z
    go_wp2_with fail
    go_ret
    exact⟨rfl,x,o,Z.out.1,Z.out.2⟩
end
end
end Go.Proofs.YtikehilbmldadaaGreatDoor
