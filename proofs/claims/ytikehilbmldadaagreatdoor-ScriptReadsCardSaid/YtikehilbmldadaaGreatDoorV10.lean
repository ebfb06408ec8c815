import Derived.Test.YtikehilbmldadaaGreatDoorV09
import Derived.Test.YtikehilbmldadaaGreatDoorV11
set_option maxHeartbeats 4000000
set_option maxRecDepth 20000
set_option linter.unusedVariables false
open Go.Proofs.Tryz Go.Proofs.YtikehilbmldadaaGreatDoor.Tryz
namespace Go.Proofs.YtikehilbmldadaaGreatDoor
section
open Go.RowKit
def C6(b:List UInt8)(k:Nat):List Ar:=(List.range k).filterMap (Bx b)
theorem tL(b:List UInt8):C6 b 0= []:=rfl
theorem Qx{b:List UInt8}{k:Nat}{r:Ar}(h:Bx b k=some r):C6 b (k+1)=C6 b k++ [r]:=by
 unfold C6;rw[List.range_succ,List.filterMap_append];simp[h]
theorem Qy{b:List UInt8}{k:Nat}(h:Bx b k=none):C6 b (k+1)=C6 b k:=by
 unfold C6;rw[List.range_succ,List.filterMap_append];simp[h]
theorem Sk(b:List UInt8)(k:Nat):(C6 b k).length<=k:=by
 unfold C6;exact Nat.le_trans (List.length_filterMap_le _ _) (by simp)
theorem Ps{b:List UInt8}{k:Nat}{r:Ar}:r∈C6 b k↔∃i,i<k/\Bx b i=some r:=by
 unfold C6;simp[List.mem_filterMap]
theorem Tf(b:List UInt8):∀k,k<=9->((C6 b k).map (·.seq)).Nodup
 |0,_=>by simp[tL]
 |k+1,hk=>by
  have ih:=Tf b k (by omega)
  cases h:Bx b k with
  |none=>rw[Qy h];exact ih
  |some r=>
   rw[Qx h,List.map_append,List.nodup_append]
   refine⟨ih,by simp,?_⟩
   intro a ha c hc
   simp at hc
   subst hc
   obtain⟨x,hx,rfl⟩:=List.mem_map.1 ha
   obtain⟨i,hi,hxi⟩:=Ps.1 hx
   have h1:=(Ko b) i x hxi
   have h2:=(Ko b) k r h
   intro e
   rw[e]at h1
   omega
theorem sK{w:World}{base:Nat}{e:TypeId}{g cap:Nat}{l:List Ar}(h:w.ownsRow base e 4 (.slice (some ⟨g,0,none⟩) l.length cap) l.length (l.flatMap Ax))(h0:0<l.length):
  Mu w g l/\base<=g/\l.length<=cap/\cap<=maxLen:=by
 obtain⟨b,off,ha,hR,hb,hc⟩:=Pq (E7 h) h0
 obtain⟨_,hv⟩:=h
 rcases hv with⟨h1,h2⟩|⟨g',cap',cur,hv,hb',hg,h1,h2,h3,h4⟩
 ·omega
 ·injection hv with e1 e2 e3
  obtain⟨rfl,rfl,_⟩:=Option.some.inj ha
  injection e1 with e1
  injection e1 with e4
  subst e4;subst e3
  refine⟨⟨cur,e,hg,by rw[h3];exact Nat.mul_le_mul_right _ h1,fun k hk=>?_⟩,hb',h1,h2⟩
  have:=hc k hk
  simpa [World.cell?,hg] using this
theorem rY{w:World}{base g cap:Nat}{l:List Ar}(h:Mu w g l)(hb:base<=g)(h1:l.length<=cap)(h2:cap<=maxLen):Ay (fun b=>base<=b) w (.slice (some ⟨g,0,none⟩) l.length cap) 4 (l.flatMap Ax) l.length:=by
 have hc:=h.cells
 obtain⟨C,t,hg,_⟩:=h
 refine⟨Mo l,_,_,rfl,h1,h2,(fun h=>by cases h),fun hp=>⟨g,0,rfl,hb,Aa hg,fun k u hu=>?_⟩⟩
 have hk:k<l.length*4:=by rw[<-Mo];exact(List.getElem?_eq_some_iff.1 hu).1
 have hk4:k/4<l.length:=by omega
 have e:k=k/4*4+k%4:=by omega
 have hf:=O0 Ax 4 Rk l (k/4) hk4 (k%4) (Nat.mod_lt _ (by decide))
 rw[<-e,hu]at hf
 obtain⟨c0,c1,c2,c3⟩:=hc (k/4) hk4
 rw[Mn hk4]at c0 c1 c2 c3
 rw[Nat.zero_add]
 generalize hq:k/4=q at *
 have h4:k%4=0\/k%4=1\/k%4=2\/k%4=3:=by omega
 rcases h4 with h4|h4|h4|h4<;>rw[h4]at e hf<;>rw[e]<;>simp[Ax]at hf<;>rw[hf]<;>assumption
theorem Rg{l:List Ar}(h:I3 l l.length)(hn:(l.map (·.seq)).Nodup):l.Pairwise (fun a b=>a.seq<b.seq):=by
 rw[List.pairwise_iff_getElem]
 intro i j hi hj hij
 have h1:=h i j hij hj
 rw[S7 hi,S7 hj]at h1
 have h2:l[i].seq≠l[j].seq:=by
  have:=(List.nodup_iff_pairwise_ne.1 hn)
  rw[List.pairwise_iff_getElem]at this
  have:=this i j (by simpa using hi) (by simpa using hj) hij
  simpa using this
 omega
structure P5 (b:List UInt8) (l:List Ar):Prop where
 perm:l.Perm (C6 b 9)
 up:l.Pairwise (fun a b=>a.seq<b.seq)
theorem P5.len{b:List UInt8}{l:List Ar}(h:P5 b l):l.length<=9:=by rw[h.perm.length_eq];exact Sk b 9
structure Wf (l:List Ar) (i:Nat):Prop where
 i1:i<=l.length-1
 i8:l.length-i<=8
 run:∀j,i<=j->j<l.length->sq l j+(l.length-1-j)=sq l (l.length-1)
theorem Wf.start{b:List UInt8}{l:List Ar}(h:P5 b l):Wf l (l.length-1):=
 ⟨Nat.le_refl _,by have:=h.len;omega,fun j h1 h2=>by
  have:j=l.length-1:=by omega
  subst this
  omega⟩
theorem Wf.step{l:List Ar}{i:Nat}(h:Wf l (i+1))(h8:l.length-(i+1)<8)(he:sq l i+1=sq l (i+1)):Wf l i:=by
 have hi:=h.i1
 refine⟨by omega,by omega,fun j h1 h2=>?_⟩
 by_cases e:j=i
 ·subst e
  have:=h.run (j+1) (Nat.le_refl _) (by omega)
  omega
 ·exact h.run j (by omega) h2
theorem Mc{b:List UInt8}{l:List Ar}{i:Nat}(h:P5 b l)(hr:Wf l i)(hs:i=0\/8<=l.length-i\/∃I,i=I+1/\sq l I+1≠sq l (I+1)):Ir b=l.drop i:=by
 have hN:∀k,k<9->Bx b k=(fun k=>if k<9 then Bx b k else none) k:=fun k hk=>by simp[hk]
 have hmem:∀r,r∈l↔∃k,(fun k=>if k<9 then Bx b k else none) k=some r:=fun r=>by
  rw[h.perm.mem_iff,Ps]
  constructor
  ·rintro⟨i,hi,hh⟩;exact⟨i,by simp[hi,hh]⟩
  ·rintro⟨i,hh⟩
   by_cases hi:i<9
   ·exact⟨i,hi,by simpa [hi] using hh⟩
   ·simp[hi]at hh
 have hlast:(l.getLast?.map (·.seq)).getD 0=if l= [] then 0 else sq l (l.length-1):=by
  by_cases e:l= []
  ·subst e;simp
  ·rw[if_neg e]
   have h0:0<l.length:=List.length_pos_iff.2 e
   rw[List.getLast?_eq_getElem?,List.getElem?_eq_getElem (by omega),S7 (by omega)];rfl
 have hi:=hr.i1
 have hok:HOk (fun k=>if k<9 then Bx b k else none):=fun k r hh=>by
  by_cases hk:k<9
  ·simp[hk]at hh;exact Ko b k r hh
  ·simp[hk]at hh
 have:=kV (fun k=>if k<9 then Bx b k else none) hok (fun k hk=>by simp;omega) l hmem h.up i (by omega) hr.i8
  (fun j h1 h2=>by
   have e:l≠ []:=fun e=>by rw[e]at h2;simp at h2
   rw[hlast,if_neg e,<-S7 h2];exact hr.run j h1 h2)
  (fun e=>by have h0:0<l.length:=List.length_pos_iff.2 e;omega)
  (by
   rcases hs with h|h|⟨I,rfl,h⟩
   ·exact .inl h
   ·exact .inr (.inl (by have:=hr.i8;omega))
   ·by_cases e:l.length=0
    ·omega
    ·exact .inr (.inr ⟨by omega,by omega,by omega,by
      have h1:I<l.length:=by omega
      have h2:I+1<l.length:=by omega
      rw[S7 h1,S7 h2]at h
      exact h⟩))
 rw[<-this]
 unfold Ir
 have e1:I2 (Bx b) 9=I2 (fun k=>if k<9 then Bx b k else none) 9:=by
  simp[I2,Qe]
 rw[e1]
 have e2:∀f s,Iq (Bx b) f s=Iq (fun k=>if k<9 then Bx b k else none) f s:=by
  intro f
  induction f with
  |zero=>intro s;cases s<;>rfl
  |succ f ih=>
   intro s
   cases s with
   |zero=>rfl
   |succ s=>
    unfold Iq
    have:s%9<9:=Nat.mod_lt _ (by decide)
    simp only[this,if_true,ih]
 exact e2 _ _
end
section
open Go.RowKit
theorem W9(c rb:Nat)(ao:Option Addr)(cap:Nat)(m:CM)(w:World)(h:A1 w c rb ao cap m):Calls Tryz.prog 183 #[.pointer (some ⟨c,0,none⟩)] w fun e w'=>e=.returned (.int .i64 m.bs.length)/\w=w':=by
 obtain⟨c0,c1,c2,c3,cf⟩:=Fg h
 clear h
 go_enter func183,ntmps183
 go_wp2_with fail
 go_ret
 exact⟨rfl,rfl⟩
def Xg(b:List UInt8)(k:Nat):List UInt8:=(b.drop (k*17)).take 17
theorem gG(B:Nat)(sa:Nat->Addr)(c rb cap:Nat)(m:CM)(k:Nat)(w:World)(h:A1 w c rb (some ⟨rb,0,none⟩) cap m)(hS:Ey B sa w)(ho:m.off=false)(hn:k*17+17<=m.bs.length):
  Calls Tryz.prog 182 #[.pointer (some ⟨c,0,none⟩),.int .i64 ((k:Int)*17),.int .i64 17] w fun e w'=>e=.returned (.tuple #[.string (Co (Xg m.bs k)),.nilIface])/\w=w':=by
 have:=O9 B sa c rb _ cap m (k*17) 17 w h hS ho hn
 rw[Int.natCast_mul]at this
 exact this
structure S0 (w:World) (base:Nat) (ao:Option Addr) (cap:Nat) (l:List Ar):Prop where
 row:w.ownsRow base 147 4 (.slice ao l.length cap) l.length (l.flatMap Ax)
 nil:l= []->ao=none/\cap=0
structure R8 (w:World) (base:Nat) (ao:Option Addr) (cap:Nat) (l:List Ar):Prop where
 row:Ay (fun b=>base<=b) w (.slice ao l.length cap) 4 (l.flatMap Ax) l.length
 nil:l= []->ao=none/\cap=0
theorem S0.some{w:World}{base:Nat}{ao:Option Addr}{cap:Nat}{l:List Ar}(h:S0 w base ao cap l)(h0:0<l.length):∃g,ao=some ⟨g,0,none⟩:=by
 obtain⟨g,e,_⟩:=Te h.row h0
 exact⟨g,e⟩
theorem vH(w:World):Calls Tryz.prog 263 #[.slice none 0 0,.int .i64 0,.int .i64 0,Sw] w fun e w'=>e=.returned (.tuple #[])/\w'=w:=by
 unfold Sw
 go_enter func263,ntmps263
 go_wp2_with fail
 go_loopw [8] (fun s8 wr=>s8=.int .i64 1/\wr=w) (fun _ _=>0)
 case atStart=>exact⟨rfl,rfl⟩
 case round=>
  obtain⟨rfl,rfl⟩:=hrel
  go_wp2_with fail
  go_end0
  exact⟨rfl,rfl⟩
theorem tK(w:World)(k:Int):Calls Tryz.prog 228 #[.slice none 0 0,.int .i64 0,.int .i64 0,.int .i64 k,Sw] w fun e w'=>e=.returned (.tuple #[])/\w'=w:=by
 have h:=vH w
 unfold Sw at h ⊢
 go_enter func228,ntmps228
 go_wp2_with fail
 go_loopw [1,2,3,10,11] (fun s1 s2 s3 s10 s11 wr=>s1=.int .i64 0/\s2=.int .i64 0/\wr=w) (fun _ _ _ _ _ _=>0)
 case atStart=>exact⟨rfl,rfl,rfl⟩
 case round=>
  obtain⟨rfl,rfl,rfl⟩:=hrel
  go_wp2_with fail
  refine h.mono ?_
  rintro e w1 ⟨rfl,rfl⟩
  go_wp2_with fail
  refine bodyPost_ret (results_none rfl _ _ _) rfl ?_
  exact⟨rfl,rfl⟩
theorem kG(w:World):Calls Tryz.prog 185 #[.slice none 0 0,Sw] w fun e w'=>e=.returned (.tuple #[])/\w'=w:=by
 have h1:=xP 0 (by decide) w
 have h2:=fun k=>Aia (tK w k)
 unfold Sw at h2 ⊢
 go_enter func185,ntmps185
 go_wp2_with fail
 refine h1.mono ?_
 rintro e w1 ⟨⟨k,rfl⟩,rfl⟩
 go_wp2_with fail
 refine(h2 k).out.mono ?_
 rintro e w1 ⟨rfl,rfl⟩
 go_wp2_with fail
 go_end0
 exact⟨rfl,rfl⟩
theorem Y1(b:List UInt8)(w:World)(base:Nat)(ao:Option Addr)(cap:Nat)(h:S0 w base ao cap (C6 b 9)):
  Calls Tryz.prog 185 #[.slice ao (C6 b 9).length cap,Sw] w fun e w'=>e=.returned (.tuple #[])/\∃l,l.length=(C6 b 9).length/\P5 b l/\R8 w' base ao cap l/\Ae (fun x=>base<=x) w w':=by
 by_cases h0:(C6 b 9).length=0
 ·have hn:=List.eq_nil_of_length_eq_zero h0
  obtain⟨rfl,rfl⟩:=h.nil hn
  rw[h0]
  refine(kG w).mono ?_
  rintro e w1 ⟨rfl,rfl⟩
  refine⟨rfl,[],rfl,⟨by rw[hn],List.Pairwise.nil⟩,⟨?_,fun _=>⟨rfl,rfl⟩⟩,Ae.refl _ _⟩
  have:=E7 h.row
  rw[hn]at this
  exact this
 ·obtain⟨g,rfl⟩:=h.some (by omega)
  obtain⟨hr,hb,h1,h2⟩:=sK h.row (by omega)
  refine(Y0 w g cap (C6 b 9) hr (fun r hr=>by obtain⟨i,_,hi⟩:=Ps.1 hr;exact(Ko b i r hi).1.s2) (Sk b 9)).mono ?_
  rintro e w1 ⟨rfl,l,hs,hI⟩
  have hl:=hI.len
  rw[<-hl]at hs h1
  refine⟨rfl,l,hl,⟨hI.perm,Rg hs ?_⟩,⟨?_,fun e=>by subst e;simp at hl;omega⟩,hI.kp.mono (fun b _ hb=>by subst hb;assumption)⟩
  ·exact(List.Perm.nodup_iff (hI.perm.map _)).2 (Tf b 9 (Nat.le_refl _))
  ·exact rY hI.row hb h1 h2
end
section
open Go.RowKit
theorem Zx(b:List UInt8)(k:Nat):Ga k (Co (Xg b k)).data.toList=Bx b k:=by rw[Mz];rfl
structure OpB (B:Nat) (sa:Nat->Addr) (c rb cap:Nat) (m:CM) (w0 w:World):Prop where
 mem:A1 w c rb (some ⟨rb,0,none⟩) cap m
 se:Ey B sa w
 bel:Below w0.heap.size w0 w
theorem OpB.below{B:Nat}{sa:Nat->Addr}{c rb cap:Nat}{m:CM}{w0 w w':World}(h:OpB B sa c rb cap m w0 w)(b:Below w.heap.size w w'):OpB B sa c rb cap m w0 w':=
 ⟨h.mem.keep (Ak b) (fun _ h=>h.elim),h.se.below b,h.bel.trans (b.mono h.bel.size)⟩
theorem OpB.keep{B:Nat}{sa:Nat->Addr}{c rb cap:Nat}{m:CM}{w0 w w':World}(h:OpB B sa c rb cap m w0 w)(k:Ae (fun x=>w0.heap.size<=x) w w')(h1:c<w0.heap.size)(h2:rb<w0.heap.size)(h3:B<=w0.heap.size):OpB B sa c rb cap m w0 w':=
 ⟨h.mem.keep k (fun b hb=>by omega),h.se.keep k (fun b hb=>by omega),h.bel.trans (k.below h.bel.size (fun b hb=>hb))⟩
theorem S0.below{w w':World}{base:Nat}{ao:Option Addr}{cap:Nat}{l:List Ar}(h:S0 w base ao cap l)(b:Below w.heap.size w w'):S0 w' base ao cap l:=by
 refine⟨?_,h.nil⟩
 obtain⟨h1,h2⟩:=h.row
 refine⟨h1,?_⟩
 rcases h2 with hn|⟨g,cp,cur,e,hg,hh,rest⟩
 ·exact .inl hn
 ·exact .inr ⟨g,cp,cur,e,hg,Af b hh (Aa hh),rest⟩
theorem Mh(w:World)(r:Ar):(w.alloc (Fq r)).heap[w.heap.size]? =some (Fq r)/\Below w.heap.size w (w.alloc (Fq r)):=⟨Ab _ _,(Below.refl _ _).alloc (Nat.le_refl _) _⟩
theorem Aae{w4 w6:World}{base:Nat}{ao:Option Addr}{cap:Nat}{l:List Ar}{o:Obj}(h:S0 w4 base ao cap l)(hb:base<=w4.heap.size)(hg:(w4.alloc o).grownBy w6 (Value.slice ao l.length cap).ownBlock):Below base w4 w6:=
 ((Below.refl base w4).alloc hb o).grown hg (by simp;omega) (fun k hk=>((h.row.alloc o).lt k hk).1)
theorem Adh{w:World}{base:Nat}{b:List UInt8}{k:Nat}{r:Ar}{ao:Option Addr}{cap:Nat}(hh:Bx b k=some r)(h:w.ownsRow base 147 4 (.slice ao ((C6 b k).length+1) cap) ((C6 b k).length+1) ((C6 b k).flatMap Ax++Ax r)):S0 w base ao cap (C6 b (k+1)):=by
 rw[Qx hh]
 refine⟨?_,fun e=>by simp at e⟩
 rw[List.length_append,List.flatMap_append]
 simpa using h
theorem Ay.imp2{R S:Nat->Prop}{w:World}{v:Value}{sz:Nat}{cs:List Value}{n:Nat}(h:Ay R w v sz cs n)(hd:∀b,R b->b<w.heap.size->S b):Ay S w v sz cs n:=by
 obtain⟨hl,ao,cap,hv,h1,h2,h3,h4⟩:=h
 refine⟨hl,ao,cap,hv,h1,h2,h3,fun hp=>?_⟩
 obtain⟨b,off,ha,hR,hb,hc⟩:=h4 hp
 exact⟨b,off,ha,hd b hR hb,hb,hc⟩
theorem R8.at{w:World}{base g cap:Nat}{l:List Ar}(h:R8 w base (some ⟨g,0,none⟩) cap l)(k:Nat)(hk:k<l.length):w.cell? ⟨g,k*4,none⟩=some (.int .i64 (sq l k)):=by
 obtain⟨b,off,ha,hR,hb,hc⟩:=Pq h.row (by omega)
 obtain⟨rfl,rfl,_⟩:=Option.some.inj ha
 have:=(hc k hk).1
 rw[Nat.zero_add]at this
 rw[this,S7 hk]
structure gP (w w':World) (rg:Nat) (lv:Value):Prop where
 bel:Below w.heap.size w w'
 rg:w.heap.size<=rg
 lv:Agi w w' lv
theorem Og{B:Nat}{sa:Nat->Addr}{c rb cap:Nat}{m:CM}{w0 w W w7:World}{L:List Ar}{a7:Option Addr}{k7:Nat}(h:OpB B sa c rb cap m w w7)(hw:Below w0.heap.size w0 w)(hlay:w0.heap.size<=c/\w0.heap.size<=rb/\B<=w0.heap.size)
  (hc:c<w.heap.size) (hb:rb<w.heap.size) (hWs:w.heap.size<=W.heap.size) (ho:w7.ownsRow W.heap.size 147 4 (.slice a7 L.length k7) L.length (L.flatMap Ax)):
  RSt B sa w0 w7.heap.size c rb cap m false L (.slice a7 L.length k7) (w7.alloc (Gy c (.slice a7 L.length k7) false))/\gP w (w7.alloc (Gy c (.slice a7 L.length k7) false)) w7.heap.size (.slice a7 L.length k7):=by
 have hb':Below w7.heap.size w7 (w7.alloc (Gy c (.slice a7 L.length k7) false)):=(Below.refl _ _).alloc (Nat.le_refl _) _
 have h2:=h.below hb'
 have hs:=h.bel.size
 refine⟨⟨⟨Ab _ _,?_⟩,h2.mem,h2.se,hw.trans (h2.bel.mono hw.size),?_⟩,h2.bel,hs,fun b hbb=>⟨Nat.le_trans hWs (ho.lt b hbb).1,Nat.lt_of_lt_of_le (ho.lt b hbb).2 hb'.size⟩⟩
 ·refine((E7 ho).imp2 (fun b hb hl=>?_)).later hb'
  show b≠c/\b≠rb/\b≠w7.heap.size
  omega
 ·omega
theorem R8.below{w w':World}{base:Nat}{ao:Option Addr}{cap:Nat}{l:List Ar}(h:R8 w base ao cap l)(b:Below w.heap.size w w'):R8 w' base ao cap l:=⟨h.row.later b,h.nil⟩
theorem Zf(B:Nat)(sa:Nat->Addr)(c rb cap:Nat)(m:CM)(w0 w:World)(h:A1 w c rb (some ⟨rb,0,none⟩) cap m)(hS:Ey B sa w)(hl:153<=m.bs.length)(ho:m.off=false)
  (hw:Below w0.heap.size w0 w) (hlay:w0.heap.size<=c/\w0.heap.size<=rb/\B<=w0.heap.size):
  Calls Tryz.prog 115 #[.pointer (some ⟨c,0,none⟩)] w fun e w'=>∃rg lv,e=.returned (.tuple #[.pointer (some ⟨rg,0,none⟩),.nilIface])/\RSt B sa w0 rg c rb cap m false (Ir m.bs) lv w'/\gP w w' rg lv:=by
 obtain⟨i0,hi0,hz0,hz1,hz2⟩:=info_parts infoRec
 have hli:(153:Int)<=(m.bs.length:Int):=by omega
 have hl2:(m.bs.length:Int)<=4611686018427387904:=by have:=h.len;omega
 have hcl:=Aa h.box
 have hbl:rb<w.heap.size:=by
  obtain⟨C,t,hh,_⟩:=h.row rfl
  exact Aa hh
 have HO0:Hid (OpB B sa c rb cap m w w):=Aia (⟨h,hS,Below.refl _ _⟩)
 have HRd:Hid (∀(k:Nat) W,k<9->OpB B sa c rb cap m w W->Calls Tryz.prog 182 #[.pointer (some ⟨c,0,none⟩),.int .i64 ((k:Int)*17),.int .i64 17] W fun e w'=>e=.returned (.tuple #[.string (Co (Xg m.bs k)),.nilIface])/\W=w'):=(show _ from fun k W hk hW=>gG B sa c rb cap m k W hW.mem hW.se ho (by omega))
 have HSz:Hid (∀W,OpB B sa c rb cap m w W->Calls Tryz.prog 183 #[.pointer (some ⟨c,0,none⟩)] W fun e w'=>e=.returned (.int .i64 m.bs.length)/\W=w'):=(show _ from fun W hW=>W9 c rb _ cap m W hW.mem)
 have HHd:Hid (∀(k:Nat) W,k<9->Calls Tryz.prog 184 #[.int .i64 k,.string (Co (Xg m.bs k))] W fun e w'=>e=.returned (A3 (sX (Bx m.bs k)))/\Below W.heap.size W w'):=(show _ from by
  intro k W hk
  have:=Aec k hk (Co (Xg m.bs k)) (by rw[Fl];unfold Xg;simp;omega) W
  rwa [Zx]at this)
 have HL9:Hid (S0 w w.heap.size none 0 (C6 m.bs 0)):=Aia (⟨World.ownsRow_nil _ _ _ _,fun _=>⟨rfl,rfl⟩⟩)
 have HW:=Aia hw
 have HLAY:=Aia hlay
 clear h hS hl ho hw hlay
 go_enter func115,ntmps115
 go_wp2_with fail
 go_loopw [4,13] (fun s4 s13 wr=>∃(k:Nat) (ao:Option Addr) (cp:Nat),k<=9/\s13=.int .i64 k/\s4=.slice ao (C6 m.bs k).length cp/\Hid (S0 wr w.heap.size ao cp (C6 m.bs k))/\Hid (OpB B sa c rb cap m w wr)) (fun _ s13 _=>9-(intOf s13).toNat)
 case atStart=>exact⟨0,none,0,by decide,rfl,rfl,HL9,HO0⟩
 case round=>
  obtain⟨k,ao,cp,hk9,rfl,rfl,HL,HO⟩:=hrel
  clear HL9
  by_cases hk:k<9
  ·have hki:(k:Int)<9:=by omega
   go_wp2_with fail
   refine(HRd.out k _ hk HO.out).mono ?_
   rintro e w' ⟨rfl,rfl⟩
   go_wp2_with fail
   refine(HSz.out _ HO.out).mono ?_
   rintro e w' ⟨rfl,rfl⟩
   go_wp2_with fail
   refine(HHd.out k _ hk).mono ?_
   rintro e w3 ⟨rfl,b3⟩
   cases hh:Bx m.bs k with
   |none=>
    have HO3:=Aia ((HO.out.below b3).below (Mh w3 ⟨0,0,0,0⟩).2)
    have HL3:=Aia ((HL.out.below b3).below (Mh w3 ⟨0,0,0,0⟩).2)
    obtain⟨x0,_,_,_⟩:=Bn (Mh w3 ⟨0,0,0,0⟩).1
    rw[<-Qy hh]at HL3
    rw[show A3 (sX none)=.agg #[.int .i64 0,.int .i64 0,.int .i64 0,.int .i64 0] from rfl,<-Qy hh]
    unfold Fq at HO3 HL3 x0
    clear HL HO b3 hh
    go_upto_region 13 with fail
    generalize w3.alloc _=w4 at HO3 HL3 x0 ⊢
    go_wp2_with fail
    go_roundw
    case rel=>exact⟨k+1,ao,cp,by omega,by go_num,rfl,HL3,HO3⟩
    case measure=>simp[intOf];omega
   |some r=>
    have hok:=(Ko m.bs k r hh).1
    have HO3:=Aia ((HO.out.below b3).below (Mh w3 r).2)
    have HL3:=Aia ((HL.out.below b3).below (Mh w3 r).2)
    obtain⟨x0,x1,x2,x3⟩:=Bn (Mh w3 r).1
    have hs1:(1:Int)<=r.seq:=by have:=hok.s1;omega
    have h9:(C6 m.bs k).length<=9:=Nat.le_trans (Sk m.bs k) hk9
    have h63:Hid ((C6 m.bs k).length+1<=maxLen):=by show(C6 m.bs k).length+1<=maxLen;unfold maxLen;omega
    have hby:Hid (((C6 m.bs k).length+1)*32<=140737488355328):=by show((C6 m.bs k).length+1)*32<=140737488355328;omega
    have HH:=Aia hh
    rw[show A3 (sX (some r))=.agg #[.int .i64 r.seq,.int .i64 r.ent,.int .i64 r.kind,.int .i64 r.tick] from rfl]
    unfold Fq at HO3 HL3 x0 x1 x2 x3
    clear HL HO b3 hok h9 hh
    go_upto_region 13 with fail
    obtain⟨a4,ha4⟩:∃a,a=w3.heap.size:=⟨_,rfl⟩
    rw[<-ha4]at x0 x1 x2 x3 ⊢
    generalize w3.alloc _=w4 at HO3 HL3 x0 x1 x2 x3 ⊢
    clear ha4
    have hbs:Hid (∀o,w.heap.size<=(w4.alloc o).heap.size):=Aia (fun o=>Nat.le_trans HO3.out.bel.size (by simp))
    go_wp2_with (at_builtin;go_must (refine A9 rfl (.tmp 36) (.tmp 38) 68 rfl w.heap.size 147 i0 _ 4 32 underlying68 hi0 hz0 hz1 hz2 rfl (by decide) _ (C6 m.bs k).length _ rfl (HL3.out.row.alloc _) ⟨w4.heap.size,0,none⟩ 1 1 (Ax r) rfl rfl (Av _ (Ax r) _) (by intro u hu;simp[Ax]at hu;rcases hu with rfl|rfl|rfl|rfl<;>rfl) h63.out hby.out (hbs.out _) ?_;intro a1 k1 w6 ho6 hg6))
    have hb6:=Aae HL3.out HO3.out.bel.size hg6
    have HO6:=Aia (HO3.out.keep (Ae.of_below hb6) hcl hbl HO0.out.se.top)
    have HL6:Hid (S0 w6 w.heap.size a1 k1 (C6 m.bs (k+1))):=Aia (Adh HH.out ho6)
    have hln:Hid ((C6 m.bs k).length+1=(C6 m.bs (k+1)).length):=Aia (by rw[Qx HH.out];simp)
    clear ho6 hg6 hb6 x0 x1 x2 x3 hs1
    go_wp2_with fail
    go_roundw
    case rel=>exact⟨k+1,a1,k1,by omega,by go_num,by rw[hln.out],HL6,HO6⟩
    case measure=>simp[intOf];omega
  ·have hk0:k=9:=by omega
   have hlay:=HLAY.out
   have HSo:Hid (Calls Tryz.prog 185 #[.slice ao (C6 m.bs 9).length cp,.func (.func 186) #[] #[]] wr fun e w'=>e=.returned (.tuple #[])/\∃l,l.length=(C6 m.bs 9).length/\P5 m.bs l/\R8 w' w.heap.size ao cp l/\Ae (fun x=>w.heap.size<=x) wr w'):=(show _ from Y1 m.bs wr w.heap.size ao cp (by rw[hk0]at HL;exact HL.out))
   have HCL:Hid (∀(W:World) (v:Value) (l:List Ar),Ay (fun x=>w.heap.size<=x) W v 4 (l.flatMap Ax) l.length->l.length<=9->Calls Tryz.prog 95 #[v] W fun e w'=>∃ao cp,e=.returned (.slice ao l.length cp)/\w'.ownsRow W.heap.size 147 4 (.slice ao l.length cp) l.length (l.flatMap Ax)/\Below W.heap.size W w'):=(show _ from fun W v l h1 h2=>Ls _ l v W h1 (by omega))
   have hao:Hid (0<(C6 m.bs 9).length->∃g,ao=some ⟨g,0,none⟩):=Aia (by rw[hk0]at HL;exact HL.out.some)
   rw[hk0]
   clear hk0 hk hlay HL
   go_wp2_with fail
   refine HSo.out.mono ?_
   rintro e w4 ⟨rfl,l,hln,hSl,hOl,hkl⟩
   have HO4:=Aia (HO.out.keep hkl hcl hbl HO0.out.se.top)
   have HSL:=Aia hSl
   have HOL:=Aia hOl
   have hl9:l.length<=9:=hSl.len
   rw[<-hln]at hao ⊢
   clear hln hSl hOl hkl HSo HO
   by_cases h0:l.length=0
   ·obtain⟨rfl,rfl⟩:=HOL.out.nil (List.eq_nil_of_length_eq_zero h0)
    rw[h0]
    have hl0:l= []:=List.eq_nil_of_length_eq_zero h0
    obtain⟨L,hL⟩:∃L,L=l.drop 0:=⟨_,rfl⟩
    have HRC:Hid (Ir m.bs=L):=Aia (by rw[hL];exact Mc HSL.out (by have:=Wf.start HSL.out;rw[h0]at this;exact this) (.inl rfl))
    have HNIL:Hid (∀W,Ay (fun x=>w.heap.size<=x) W (.slice none 0 0) 4 (L.flatMap Ax) L.length):=Aia (fun W=>by rw[hL,hl0];exact Ay.nil _ W 4)
    have hlen:Hid (L.length<=9):=Aia (by rw[hL,hl0];decide)
    clear hl0 hao HOL hL
    go_wp2_with fail
    go_loopw [9] (fun s9 wy=>s9=.int .i64 0/\Hid (OpB B sa c rb cap m w wy)) (fun _ _=>0)
    case atStart=>exact⟨rfl,HO4⟩
    case round=>
     obtain⟨rfl,HO5⟩:=hrel
     go_wp2_with fail
     go_quiet (fail)
     go_wp2_with fail
     refine(HCL.out _ _ L (HNIL.out _) hlen.out).mono ?_
     rintro e w7 ⟨a7,k7,rfl,ho7,b7⟩
     have HO7:=Aia ((HO5.out.below (Ag _ (Below.refl _ _))).below b7)
     have HF:=Aia (Og HO7.out HW.out HLAY.out hcl hbl HO5.out.bel.size ho7)
     unfold Gy at HF
     go_wp2_with fail
     go_ret2
     rw[HRC.out]
     exact⟨_,_,rfl,HF.out.1,HF.out.2⟩
   ·obtain⟨g,rfl⟩:=hao.out (by omega)
    obtain⟨N,hN⟩:∃N,l.length=N+1:=⟨l.length-1,by omega⟩
    have hNi:(l.length:Int)-1=(N:Int):=by omega
    have hmax:max (0:Int) (N:Int)=(N:Int):=by omega
    have hN9:N<=8:=by omega
    have hcap:l.length<=cp:=by
     obtain⟨_,ao,cap,hv,h1,_⟩:=HOL.out.row
     injection hv with _ _ e
     omega
    have hR0:Hid (Wf l N):=Aia (by have:=Wf.start HSL.out;rwa [hN]at this)
    have HSQ:Hid (∀k,k<l.length->sq l k<4294967296):=Aia (fun k hk=>by
     rw[S7 hk]
     obtain⟨i,_,hi⟩:=Ps.1 (HSL.out.perm.subset (List.getElem_mem hk))
     exact(Ko m.bs i _ hi).1.s2)
    have hNH:=Aia hN
    have hlI:(l.length:Int)<=9:=by omega
    have HS9:Hid (R8 w4 w.heap.size (some ⟨g,0,none⟩) cp l):=HOL
    clear hao h0 hN HOL
    go_wp2_with fail
    ·clear hlI
     go_loopw [9] (fun s9 wy=>∃i,s9=.int .i64 (i:Nat)/\Hid (Wf l i)/\Hid (R8 wy w.heap.size (some ⟨g,0,none⟩) cp l)/\Hid (OpB B sa c rb cap m w wy)) (fun s9 _=>(intOf s9).toNat)
     case atStart=>exact⟨N,rfl,hR0,HS9,HO4⟩
     case round=>
      obtain⟨i,rfl,HR,HS5,HO5⟩:=hrel
      clear HS9 HO4 hR0
      have hiN:i<l.length:=by have:=HR.out.i1;have:=hNH.out;omega
      by_cases hi0:i=0
      ·subst hi0
       have HSL2:=Aia (Mc HSL.out HR.out (.inl rfl))
       have hsub:=fun w=>Jk w g l.length cp 0 (by omega) (by omega)
       simp only[Int.natCast_zero]at hsub
       obtain⟨L,hL⟩:∃L,L=l.drop 0:=⟨_,rfl⟩
       have hLl:l.length-0=L.length:=by rw[hL,List.length_drop]
       rw[<-hL]at HSL2
       rw[hLl]at hsub
       have HRC:=HSL2
       have HLS:Hid (∀W,R8 W w.heap.size (some ⟨g,0,none⟩) cp l->Ay (fun x=>w.heap.size<=x) W (.slice (some ⟨g,0*4,none⟩) L.length (cp-0)) 4 (L.flatMap Ax) L.length):=(show _ from fun W hW=>by
        have:=L8 hW.row 0 hiN
        rw[<-hL,hLl]at this
        exact this)
       have hlen:Hid (L.length<=9):=Aia (by rw[hL,List.length_drop];omega)
       clear hL hLl hiN HSQ HSL HR HSL2
       go_wp2_with fail
       go_quiet (fail)
       have HS6:=Aia (HS5.out.below (Ag nq (Below.refl _ _)))
       go_wp2_with fail
       refine(HCL.out _ _ L (HLS.out _ HS6.out) hlen.out).mono ?_
       rintro e w7 ⟨a7,k7,rfl,ho7,b7⟩
       have HO7:=Aia ((HO5.out.below (Ag _ (Below.refl _ _))).below b7)
       have HF:=Aia (Og HO7.out HW.out HLAY.out hcl hbl HO5.out.bel.size ho7)
       unfold Gy at HF
       go_wp2_with fail
       go_ret2
       rw[HRC.out]
       exact⟨_,_,rfl,HF.out.1,HF.out.2⟩
      ·obtain⟨I,rfl⟩:∃I,i=I+1:=⟨i-1,by omega⟩
       have hb1:(I:Int)+1<(l.length:Int):=by omega
       have hb2:(I:Int)<(l.length:Int):=by omega
       have hi1:(0:Int)<(I:Int)+1:=by omega
       have hw1:IntKind.i64.wrap (I:Int)=(I:Int):=IntWalk.i64_in _ (by omega)
       have q0:=HS5.out.at (I+1) hiN
       have p0:=HS5.out.at I (by omega)
       have hmj:=HSQ.out (I+1) hiN
       obtain⟨rj,hrj⟩:∃r,r=sq l (I+1):=⟨_,rfl⟩
       obtain⟨rJ,hrJ⟩:∃r,r=sq l I:=⟨_,rfl⟩
       rw[<-hrj]at q0 hmj
       rw[<-hrJ]at p0
       have hw2:IntKind.i64.wrap ((rj:Int)-1)=(rj:Int)-1:=IntWalk.i64_in _ (by omega)
       have hj4:(rj:Int)<4294967296:=by omega
       have hsub:=fun w=>Jk w g l.length cp (I+1) (by omega) (by omega)
       simp only[Int.natCast_add,Int.natCast_one]at hsub
       by_cases h8:8<=l.length-(I+1)
       ·have hs8:decide ((l.length:Int)-((I:Int)+1)<8)=false:=decide_eq_false (by omega)
        have HSL2:=Aia (Mc HSL.out HR.out (.inr (.inl h8)))
        obtain⟨L,hL⟩:∃L,L=l.drop (I+1):=⟨_,rfl⟩
        have hLl:l.length-(I+1)=L.length:=by rw[hL,List.length_drop]
        rw[<-hL]at HSL2
        rw[hLl]at hsub
        have HRC:=HSL2
        have HLS:Hid (∀W,R8 W w.heap.size (some ⟨g,0,none⟩) cp l->Ay (fun x=>w.heap.size<=x) W (.slice (some ⟨g,(I+1)*4,none⟩) L.length (cp-(I+1))) 4 (L.flatMap Ax) L.length):=(show _ from fun W hW=>by
         have:=L8 hW.row (I+1) hiN
         rw[<-hL,hLl]at this
         exact this)
        have hlen:Hid (L.length<=9):=Aia (by rw[hL,List.length_drop];omega)
        clear hL hLl hiN HSQ HSL HR HSL2
        go_wp2_with fail
        go_quiet (fail)
        have HS6:=Aia (HS5.out.below (Ag nq (Below.refl _ _)))
        go_wp2_with fail
        refine(HCL.out _ _ L (HLS.out _ HS6.out) hlen.out).mono ?_
        rintro e w7 ⟨a7,k7,rfl,ho7,b7⟩
        have HO7:=Aia ((HO5.out.below (Ag _ (Below.refl _ _))).below b7)
        have HF:=Aia (Og HO7.out HW.out HLAY.out hcl hbl HO5.out.bel.size ho7)
        unfold Gy at HF
        go_wp2_with fail
        go_ret2
        rw[HRC.out]
        exact⟨_,_,rfl,HF.out.1,HF.out.2⟩
       ·have hs8:decide ((l.length:Int)-((I:Int)+1)<8)=true:=decide_eq_true (by omega)
        by_cases he:rJ+1=rj
        ·have heq:((rJ:Int)==(rj:Int)-1)=true:=by simp;omega
         have HR2:=Aia (HR.out.step (by omega) (by rw[<-hrj,<-hrJ];exact he))
         clear hsub hiN h8 hmj hrj hrJ he
         go_wp2_with fail
         go_quiet (fail)
         have HO6:=Aia (HO5.out.below (Ag nq (Below.refl _ _)))
         have HS6:=Aia (HS5.out.below (Ag nq (Below.refl _ _)))
         go_wp2_with fail
         go_roundw
         case rel=>exact⟨I,by go_num,HR2,HS6,HO6⟩
         case measure=>simp[intOf]
        ·have heq:((rJ:Int)==(rj:Int)-1)=false:=by simp;omega
         have HSL2:=Aia (Mc HSL.out HR.out (.inr (.inr ⟨I,rfl,by rw[<-hrj,<-hrJ];exact he⟩)))
         clear he h8 hmj hrj hrJ
         obtain⟨L,hL⟩:∃L,L=l.drop (I+1):=⟨_,rfl⟩
         have hLl:l.length-(I+1)=L.length:=by rw[hL,List.length_drop]
         rw[<-hL]at HSL2
         rw[hLl]at hsub
         have HRC:=HSL2
         have HLS:Hid (∀W,R8 W w.heap.size (some ⟨g,0,none⟩) cp l->Ay (fun x=>w.heap.size<=x) W (.slice (some ⟨g,(I+1)*4,none⟩) L.length (cp-(I+1))) 4 (L.flatMap Ax) L.length):=(show _ from fun W hW=>by
          have:=L8 hW.row (I+1) hiN
          rw[<-hL,hLl]at this
          exact this)
         have hlen:Hid (L.length<=9):=Aia (by rw[hL,List.length_drop];omega)
         clear hL hLl hiN HSQ HSL HR HSL2
         go_wp2_with fail
         go_quiet (fail)
         have HS6:=Aia (HS5.out.below (Ag nq (Below.refl _ _)))
         go_wp2_with fail
         refine(HCL.out _ _ L (HLS.out _ HS6.out) hlen.out).mono ?_
         rintro e w7 ⟨a7,k7,rfl,ho7,b7⟩
         have HO7:=Aia ((HO5.out.below (Ag _ (Below.refl _ _))).below b7)
         have HF:=Aia (Og HO7.out HW.out HLAY.out hcl hbl HO5.out.bel.size ho7)
         unfold Gy at HF
         go_wp2_with fail
         go_ret2
         rw[HRC.out]
         exact⟨_,_,rfl,HF.out.1,HF.out.2⟩
    ·have hN0:N=0:=by omega
     rw[hN0]at hR0
     have HR:=hR0
     have hiN:0<l.length:=by have:=hNH.out;omega
     clear hNi hmax hN9 hR0 hN0
     go_loopw [9] (fun s9 wy=>s9=.int .i64 0/\Hid (R8 wy w.heap.size (some ⟨g,0,none⟩) cp l)/\Hid (OpB B sa c rb cap m w wy)) (fun s9 _=>0)
     case atStart=>exact⟨rfl,HS9,HO4⟩
     case round=>
      obtain⟨rfl,HS5,HO5⟩:=hrel
      clear HS9 HO4
      have HSL2:=Aia (Mc HSL.out HR.out (.inl rfl))
      have hsub:=fun w=>Jk w g l.length cp 0 (by omega) (by omega)
      simp only[Int.natCast_zero]at hsub
      obtain⟨L,hL⟩:∃L,L=l.drop 0:=⟨_,rfl⟩
      have hLl:l.length-0=L.length:=by rw[hL,List.length_drop]
      rw[<-hL]at HSL2
      rw[hLl]at hsub
      have HRC:=HSL2
      have HLS:Hid (∀W,R8 W w.heap.size (some ⟨g,0,none⟩) cp l->Ay (fun x=>w.heap.size<=x) W (.slice (some ⟨g,0*4,none⟩) L.length (cp-0)) 4 (L.flatMap Ax) L.length):=(show _ from fun W hW=>by
       have:=L8 hW.row 0 hiN
       rw[<-hL,hLl]at this
       exact this)
      have hlen:Hid (L.length<=9):=Aia (by rw[hL,List.length_drop];omega)
      clear hL hLl hiN HSQ HSL HR HSL2
      go_wp2_with fail
      go_quiet (fail)
      have HS6:=Aia (HS5.out.below (Ag nq (Below.refl _ _)))
      go_wp2_with fail
      refine(HCL.out _ _ L (HLS.out _ HS6.out) hlen.out).mono ?_
      rintro e w7 ⟨a7,k7,rfl,ho7,b7⟩
      have HO7:=Aia ((HO5.out.below (Ag _ (Below.refl _ _))).below b7)
      have HF:=Aia (Og HO7.out HW.out HLAY.out hcl hbl HO5.out.bel.size ho7)
      unfold Gy at HF
      go_wp2_with fail
      go_ret2
      rw[HRC.out]
      exact⟨_,_,rfl,HF.out.1,HF.out.2⟩
end
section
open Go.RowKit
section
variable {B:Nat} {sa:Nat->Addr} {w0 w w':World} {c rb cap:Nat} {m m':CM}
end
end
end Go.Proofs.YtikehilbmldadaaGreatDoor
