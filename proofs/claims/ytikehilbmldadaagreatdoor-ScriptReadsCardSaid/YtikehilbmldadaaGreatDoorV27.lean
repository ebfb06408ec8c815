import Derived.Test.YtikehilbmldadaaGreatDoorV26
import Derived.Test.YtikehilbmldadaaGreatDoorV34
set_option maxHeartbeats 4000000
set_option maxRecDepth 100000
set_option linter.unusedVariables false
open Go.Proofs.Tryz Go.Proofs.YtikehilbmldadaaGreatDoor.Tryz
namespace Go.Proofs.YtikehilbmldadaaGreatDoor
open Go.RowKit
def Is(r:Ar):List Nat:=[r.seq,r.ent,r.kind,r.tick]
def Le(r:Ar):List ByteArray:=(Is r).map (fun n:Nat=>Fc (Lib.itoa (n:Int)))
theorem sY(r:Ar):(Lib.join ((Le r).map (·.data.toList)) [32])=Fd r:=by
 simp[Le,Is,Fd,Pk]
def Wg(r:Ar):Prop:=∀n∈Is r,n<=9223372036854775807
theorem J8.td{r:Ar}(h:J8 r):Wg r:=by
 intro n hn
 have:=h.s2;have:=h.e;have:=h.k;have:=h.t
 simp[Is]at hn
 omega
theorem Ke{n:Nat}(h:n<=9223372036854775807):(Lib.itoa (n:Int)).length<=21:=Lib.itoa_length_le n (by omega) (by omega)
theorem Xl{r:Ar}(h:Wg r):(Fd r).length<=87:=by
 unfold Fd
 rw[Lib.join_length]
 have a:=Ke (h r.seq (by simp[Is]))
 have b:=Ke (h r.ent (by simp[Is]))
 have c:=Ke (h r.kind (by simp[Is]))
 have d:=Ke (h r.tick (by simp[Is]))
 simp[Lib.lens]
 omega
theorem Ac8(r:Ar)(i:Nat)(h:i<4):(Le r).take (i+1)=(Le r).take i++ [Fc (Lib.itoa (((Is r).getD i 0:Nat):Int))]:=by
 have hl:i<(Is r).length:=h
 rw[List.take_succ_eq_append_getElem (by unfold Le;rw[List.length_map];exact hl)]
 unfold Le
 rw[List.getElem_map,List.getD_eq_getElem?_getD,List.getElem?_eq_getElem hl]
 rfl
theorem Ac9{r:Ar}(h:Wg r)(i:Nat)(hi:i<4):(Is r).getD i 0<=9223372036854775807:=by
 match i,hi with
 |0,_=>exact h _ (by simp[Is])
 |1,_=>exact h _ (by simp[Is])
 |2,_=>exact h _ (by simp[Is])
 |3,_=>exact h _ (by simp[Is])
structure Nu (w:World) (p:Nat) (r:Ar) (i:Nat) (v:Value) (wr:World):Prop where
 own:wr.ownsRow (p+1) 9 1 v i (Ad ((Le r).take i))
 ns:∀k,k<4->wr.cell? ⟨p,k,none⟩=some (.int .i64 (((Is r).getD k 0:Nat):Int))
 bel:Below w.heap.size w wr
 lo:w.heap.size<=p
 hi:p<wr.heap.size
theorem M1(l:List ByteArray)(x:ByteArray):Ad (l++ [x])=Ad l++Ad [x]:=by simp[Ad]
theorem Nu.below{w wr w':World}{p i:Nat}{r:Ar}{v:Value}(h:Nu w p r i v wr)(b:Below wr.heap.size wr w'):Nu w p r i v w':=
 ⟨Dy h.own (Ak b) (fun _ _ _ h=>h),fun k hk=>by rw[b.cell (p:=⟨p,k,none⟩) h.hi];exact h.ns k hk,h.bel.trans (b.mono h.bel.size),h.lo,Nat.lt_of_lt_of_le h.hi b.size⟩
theorem Nu.next{w wz W w':World}{p i:Nat}{r:Ar}{v v':Value}(h:Nu w p r i v wz)(hi:i<4)(hb:Below wz.heap.size wz W)(ho:w'.ownsRow (p+1) 9 1 v' (i+1) (Ad ((Le r).take i)++Ad [Fc (Lib.itoa (((Is r).getD i 0:Nat):Int))]))(hg:W.grownBy w' v.ownBlock):Nu w p r (i+1) v' w':=by
 have h2:=h.below hb
 have kg:Ae (fun b=>some b=v.ownBlock) W w':=Ae.of_grown hg
 have hl:=fun b (hb:some b=v.ownBlock)=>(h2.own.lt b hb.symm).1
 refine⟨by rw[Ac8 r i hi,M1];exact ho,fun k hk=>?_,h2.bel.trans (kg.below h2.bel.size (fun b hb=>by have:=hl b hb;have:=h2.lo;omega)),h2.lo,Nat.lt_of_lt_of_le h2.hi kg.size⟩
 rw[kg.cell (p:=⟨p,k,none⟩) h2.hi (fun hh=>by have:=hl p hh;omega)]
 exact h2.ns k hk
theorem Ul(B:Nat)(r:Ar)(w:World)(hT:J4 B w)(hB:B<=w.heap.size)(hr:Wg r):
  Calls Tryz.prog 137 #[A3 r] w fun e w'=>e=.returned (.string (Fc (Fd r)))/\Below w.heap.size w w':=by
 obtain⟨i0,hi0,hz0,hz1,hz2⟩:=info_parts infoStr
 have hba:Below w.heap.size w (w.alloc (Fq r)):=(Below.refl _ _).alloc (Nat.le_refl _) _
 have hna:=Ab w (Fq r)
 have HT:=Aia (fun W (hW:Below w.heap.size w W) i (hi:i<4)=>K3 B (((Is r).getD i 0:Nat):Int) W (hT.low hW hB) (by omega) (by have:=Ac9 hr i hi;omega))
 have HJN:=Aia (sY r)
 have HJL:=Aia (Xl hr)
 clear hT hB hr
 unfold Fq at hba hna
 unfold A3
 go_enter func137,ntmps137
 go_upto_region 2 with fail
 generalize w.alloc _=w1 at hba hna ⊢
 obtain⟨c0,c1,c2,c3⟩:=Bn hna
 have hsz:w.heap.size<w1.heap.size:=Aa hna
 have HST0:Hid (Nu w w1.heap.size r 0 (.slice none 0 0) (w1.alloc (.cells #[.int .i64 r.seq,.int .i64 r.ent,.int .i64 r.kind,.int .i64 r.tick] 3))):=Aia (by
  have hg:=Ab w1 (.cells #[.int .i64 r.seq,.int .i64 r.ent,.int .i64 r.kind,.int .i64 r.tick] 3)
  obtain⟨d0,d1,d2,d3⟩:=Bn hg
  refine⟨World.ownsRow_nil _ _ _ _,fun k hk=>?_,hba.alloc (Nat.le_of_lt hsz) _,Nat.le_of_lt hsz,Aa hg⟩
  match k,hk with
  |0,_=>exact d0
  |1,_=>exact d1
  |2,_=>exact d2
  |3,_=>exact d3)
 have HZ:=Aia hsz
 clear hba hna hsz
 go_wp2_with fail
 generalize hp:w1.heap.size=p at HST0 HZ ⊢
 clear hp
 go_loopw [3,16] (fun s3 s16 wr=>∃(i:Nat) (a1:Option Addr) (j1:Nat),i<=4/\s3=.slice a1 i j1/\s16=.int .i64 i/\Hid (Nu w p r i (.slice a1 i j1) wr)) (fun _ s16 _=>4-(intOf s16).toNat)
 case atStart=>exact⟨0,none,0,by omega,rfl,rfl,HST0⟩
 case round=>
  obtain⟨i,a1,j1,hi,rfl,rfl,hst⟩:=hrel
  clear HST0 c0 c1 c2 c3
  by_cases hlt:i<4
  ·have hltI:(i:Int)<4:=by omega
   have hc:=hst.out.ns i hlt
   have HI:=Aia (HT.out wr hst.out.bel i hlt)
   have HNx:=Aia (fun wz W w' v' (bz:Below wr.heap.size wr wz) hb ho hg=>(hst.out.below bz).next (W:=W) (w':=w') (v':=v') hlt hb ho hg)
   have HLay:=Aia (fun wz (bz:Below wr.heap.size wr wz) (x:Obj)=>And.intro ((hst.out.below bz).own.alloc x) (show p+1<=(wz.alloc x).heap.size by rw[World.size_alloc];have:=(hst.out.below bz).hi;omega))
   obtain⟨N,hN⟩:∃N,N=(Is r).getD i 0:=⟨_,rfl⟩
   rw[<-hN]at hc HI HNx
   obtain⟨S,hS⟩:∃S:ByteArray,S=Fc (Lib.itoa (N:Int)):=⟨_,rfl⟩
   have HI':Hid (Calls Tryz.prog 100 #[.int .i64 N] wr fun e w'=>e=.returned (.string S)/\Below wr.heap.size wr w'):=Aia (by rw[hS];exact HI.out)
   rw[<-hS]at HNx
   obtain⟨cs,hcs⟩:∃cs,cs=Ad ((Le r).take i):=⟨_,rfl⟩
   rw[<-hcs]at HNx
   have HLay2:Hid (∀wz (bz:Below wr.heap.size wr wz) (x:Obj),(wz.alloc x).ownsRow (p+1) 9 1 (.slice a1 i j1) i cs/\p+1<=(wz.alloc x).heap.size):=Aia (by rw[hcs];exact HLay.out)
   have h63:Hid (i+1<=maxLen):=Aia (by unfold maxLen;omega)
   have hby:Hid ((i+1)*16<=140737488355328):=Aia (by omega)
   clear hst HI HLay hN hS hcs HT HJN HJL
   go_wp2_with fail
   refine HI'.out.mono ?_
   rintro e wz ⟨rfl,bz⟩
   have HBZ:=Aia bz
   clear bz hc
   go_wp2_with (at_builtin;go_must (refine A9 rfl (.tmp 20) (.tmp 23) 22 rfl (p+1) 9 i0 _ 1 16 underlying22 hi0 hz0 hz1 hz2 rfl (by decide) _ i _ rfl (HLay2.out wz HBZ.out _).1 ⟨wz.heap.size,0,none⟩ 1 1 (Ad [S]) rfl rfl (Av _ (Ad [S]) _) (Kb _) h63.out hby.out (HLay2.out wz HBZ.out _).2 ?_;intro a2 k2 w4 ho hg;have nx:=Aia (HNx.out wz _ w4 _ HBZ.out ((Below.refl _ _).alloc (Nat.le_refl _) _) ho hg);clear ho hg))
   go_roundw
   case rel=>exact⟨i+1,a2,k2,by omega,rfl,by go_num,nx⟩
   case measure=>simp[intOf];omega
  ·obtain rfl:i=4:=by omega
   have hsl:=E7 hst.out.own
   have hsl2:Ay (fun b=>p+1<=b) wr (.slice a1 4 j1) 1 (Ad (Le r)) (Le r).length:=hsl
   obtain⟨hl4,ao,cap,hv,hc1,hc2,hc3,hc4⟩:=hsl2
   injection hv with e1 e2 e3
   subst e1;subst e3
   obtain⟨b,off,rfl,hR,hbl,hcell⟩:=Eh (ao:=a1) (n:=4) (cap:=j1) (l:=Le r) hsl (by show 0<4;decide)
   have HJ:=Tryz.strings_Join b off j1 (Le r) ⟨#[32]⟩ wr (fun j x hx=>by
    obtain⟨hj,rfl⟩:=List.getElem?_eq_some_iff.1 hx
    exact hcell j hj) hbl (by show 4<=_;decide) hc1 (by
    show(Lib.join ((Le r).map (·.data.toList)) [32]).length<=_
    rw[HJN.out];have:=HJL.out;omega)
   have HJ2:Hid (Calls Tryz.prog 139 #[.slice (some ⟨b,off,none⟩) 4 j1,.string ⟨#[32]⟩] wr fun e w'=>e=.returned (.string (Fc (Fd r)))/\Below wr.heap.size wr w'):=Aia (by
    rw[<-HJN.out];exact HJ)
   have HB:=Aia hst.out.bel
   clear HJ hst hsl hl4 hc1 hc2 hc3 hc4 hcell hbl hR HJN HJL HT
   go_wp2_with fail
   refine HJ2.out.mono ?_
   rintro e wz ⟨rfl,bz⟩
   have HB2:=Aia (HB.out.trans (bz.mono HB.out.size))
   clear bz
   go_wp2_with fail
   go_ret
   exact⟨rfl,HB2.out⟩
theorem Ado(E:Ap):Ca [.str J2,.str E.name,.num E.tol]= [101,110,116,105,116,121,32]++E.name.data.toList++ [32]++Lib.itoa E.tol++ [10]:=by simp[Ca,upB,Ob,B3,J2,List.range_succ]
theorem Abr(E:Ap):Aq (B6 E)=Ca [.str J2,.str E.name,.num E.tol]++Aq (E.points.map Hi)++Aq (Ew E)++Aq (E.gaps.map (Ed E))++Aq (E.edges.map (D5 E))++Aq (E.first.map (Ev E))++Aq (E.last.map (Et E)):=by
 unfold B6
 rw[show([.str J2,.str E.name,.num E.tol]::(E.points.map Hi++Ew E++E.gaps.map (Ed E)++E.edges.map (D5 E)++E.first.map (Ev E)++E.last.map (Et E)):List (List W1))= [[.str J2,.str E.name,.num E.tol]]++(E.points.map Hi++Ew E++E.gaps.map (Ed E)++E.edges.map (D5 E)++E.first.map (Ev E)++E.last.map (Et E))from rfl]
 simp only[B4,D8,List.append_assoc]
theorem Rt(B:Nat)(sa:Nat->Addr)(v:Value)(f:Nat × Int)(hf:f.1<=11)(cd at_:Int)(w:World)(hS:Dp B sa w)(h:I7 sa w v f):
  Calls Tryz.prog 11 #[v,.agg #[.int .i64 cd,.int .i64 at_]] w fun e w'=>e=.returned (.bool (Q5 f cd at_))/\Below w.heap.size w w':=by
 have hxa:=Ab w (.cells #[.int .i64 cd,.int .i64 at_] 32)
 have hba:Below w.heap.size w (w.alloc (.cells #[.int .i64 cd,.int .i64 at_] 32)):=(Below.refl _ _).alloc (Nat.le_refl _) _
 have HC:=Aia (wZ B sa v f hf _ (hS.below hba) (h.below hba))
 clear hS h
 go_enter func11,ntmps11
 go_upto_region 1 with fail
 generalize w.alloc _=w1 at hxa hba HC ⊢
 go_wp2_with fail
 refine HC.out.mono ?_
 rintro e w2 ⟨rfl,b2⟩
 have hx2:=Af b2 hxa (Aa hxa)
 have c0:w2.cell? ⟨w.heap.size,0,none⟩=some (.int .i64 cd):=by simp[World.cell?,hx2]
 have c1:w2.cell? ⟨w.heap.size,1,none⟩=some (.int .i64 at_):=by simp[World.cell?,hx2]
 have hb2:=hba.trans (b2.mono hba.size)
 obtain⟨n,a⟩:=f
 clear hx2 b2 HC hxa
 by_cases h1:(n:Int)=cd
 ·by_cases h2:(n:Int)=0
  ·have HT:=Aia (show Q5 (n,a) cd at_=true from decide_eq_true ⟨h1,.inl h2⟩)
   have e1:((n:Int)==cd)=true:=by simp[h1]
   have e2:((n:Int)==0)=true:=by rw[h2];rfl
   clear h1 h2
   go_wp2_with fail
   go_ret
   exact⟨Ah HT.out.symm,hb2⟩
  ·have e1:((n:Int)==cd)=true:=by simp[h1]
   have e2:((n:Int)==0)=false:=by simp only[beq_eq_false_iff_ne];exact h2
   have HT:=Aia (show Q5 (n,a) cd at_=(a==at_)from by
    unfold Q5
    rw[Bool.eq_iff_iff]
    simp only[decide_eq_true_eq,beq_iff_eq]
    exact⟨fun h=>h.2.resolve_left h2,fun h=>⟨h1,.inr h⟩⟩)
   obtain⟨zb,hzb⟩:∃zb,(a==at_)=zb:=⟨_,rfl⟩
   rw[hzb]at HT
   clear h1 h2
   go_wp2_with fail
   go_ret
   exact⟨Ah HT.out.symm,hb2⟩
 ·have e1:((n:Int)==cd)=false:=by simp only[beq_eq_false_iff_ne];exact h1
  have HT:=Aia (show Q5 (n,a) cd at_=false from decide_eq_false (fun h=>h1 h.1))
  clear h1
  go_wp2_with fail
  go_ret
  exact⟨Ah HT.out.symm,hb2⟩
theorem Tl(w:World):Calls Tryz.prog 13 #[.int .i64 1] w fun e w'=>e=.returned (.string (Ib 1))/\Below w.heap.size w w':=by
 have hb:=fun o=>((Below.refl w.heap.size w).alloc (Nat.le_refl _) o:Below w.heap.size w (w.alloc o))
 go_enter func13,ntmps13
 go_wp2_with fail
 go_ret
 exact⟨rfl,hb _⟩
theorem sC {s : ByteArray} (h : s.size ≤ 8 ∨ s.data.toList.take 4 ≠ [116, 105, 99, 107]) : Qs s ≤ 999 := by
  unfold Qs
  split
  · rename_i n r ha
    unfold Hf at ha
    split at ha
    · cases ha
    · rename_i ws q hp
      split at ha
      · cases ha
      · rename_i i hi
        split at ha
        · cases ha
        · split at ha
          · cases ha
          · rename_i hl ns hns
            obtain ⟨rfl, rfl⟩ := Prod.mk.inj (Option.some.inj ha)
            have hl1 : q.length = 1 := by have : q.length = Gm 3 := (by omega);exact this
            obtain ⟨s1, rfl⟩ := List.length_eq_one_iff.1 hl1
            unfold D7 at hns
            split at hns
            · cases hns
            · rename_i k hk
              split at hns
              · cases hns
              · split at hns
                · cases hns
                · obtain ⟨rfl, _⟩ := List.cons.inj (Option.some.inj hns)
                  have hw := Pb.1 (List.findIdx?_eq_some_iff_getElem.1 hi).2.1
                  have hws : ws.data.toList = [116, 105, 99, 107] := by rw [← hw]; rfl
                  have hc := El 32 s
                  rw [hp] at hc
                  have hj := Mm 32 s.data.toList
                  rw [← hc] at hj
                  simp only [List.map_cons, List.map_nil, Cb] at hj
                  rw [hws] at hj
                  have hsz : s.data.toList.length = s.size := by rw [Array.length_toList]; rfl
                  rcases h with h | h
                  · unfold Ej at hk
                    split at hk
                    · rename_i v hv
                      split at hk
                      · rename_i hcond
                        have hvk := Option.some.inj hk
                        have h3 : s1.data.toList.length ≤ 3 := by
                          have hlen := congrArg List.length hj
                          rw [hsz] at hlen
                          simp only [List.length_append, List.length_cons, List.length_nil] at hlen
                          omega
                        rw [← hcond.2.2, show v = ((v.toNat : Nat) : Int) by omega, Jt] at h3
                        have := P1 _ (Lib.decDigits v.toNat) rfl (Gk _)
                        rw [V2] at this
                        have h10 : 10 ^ (Lib.decDigits v.toNat).length ≤ 10 ^ 3 := Nat.pow_le_pow_right (by decide) h3
                        omega
                      · cases hk
                    · cases hk
                  · exfalso; apply h
                    rw [← hj]; rfl
  · omega
end Go.Proofs.YtikehilbmldadaaGreatDoor
