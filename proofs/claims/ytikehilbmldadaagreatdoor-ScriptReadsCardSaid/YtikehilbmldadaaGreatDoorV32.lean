import Derived.Test.YtikehilbmldadaaGreatDoorV27
import Derived.Test.YtikehilbmldadaaGreatDoorV30
import Derived.Lib.SliceRun
import Derived.Test.YtikehilbmldadaaGreatDoorV41
import Derived.LaidMore
import Derived.LaidSub
import Derived.Lay
import Derived.LaidOnce
import Derived.MakeChecks
set_option maxHeartbeats 4000000
set_option maxRecDepth 100000
set_option linter.unusedVariables false
open Go.Proofs.Tryz Go.Proofs.YtikehilbmldadaaGreatDoor.Tryz
namespace Go.Proofs.YtikehilbmldadaaGreatDoor
open Go.RowKit
theorem B8.recs{M:KpM}{T:Nat}(h:B8 M T):∀r∈M.L,Wg r:=by
 obtain⟨D,d1,d2,d3⟩:=h.log
 intro r hr
 rw[d3]at hr
 have hm:r∈D:=List.mem_of_mem_drop hr
 obtain⟨j,hj,rfl⟩:=List.mem_iff_getElem.1 hm
 exact(d1.seq j hj).2.td
theorem Aap{L:List Ar}(h:L≠ []):Gz L∈L:=by
 unfold Gz
 rw[List.getLast?_eq_some_getLast h]
 exact List.getLast_mem h
section
variable {B:Nat} {sa:Nat->Addr} {w0:World} {kb c pb:Nat} {txt:ByteArray} {x:KpX} {M:KpM} {o:Nat->Nat} {w:World} {T:Nat}
theorem Bh.top(h:Bh B sa w0 kb c txt x M o w):B<=w.heap.size:=Nat.le_trans h.b.bl h.b.bel.size
theorem Ab3(h:Bh B sa w0 kb c txt x M o w)(hO:B8 M T)(hT:J4 B w)(hp:w.heap[pb]? =some (plC kb c)):
  Calls Tryz.prog 135 #[.pointer (some ⟨pb,0,none⟩)] w (Cc (Es txt M 11 []).2.1 w):=by
 obtain⟨p0,p1⟩:=Fe hp
 have HCa:=Aia (pO h hO)
 show Calls _ _ _ _ (Cc (if M.L= [] then Em else Fc (Fd (Gz M.L))) w)
 have HR:=Aia (fun(hL:M.L≠ [])=>hO.recs _ (Aap hL))
 have hBt:=h.top
 by_cases hL:M.L= []
 ·rw[if_pos hL]
  rw[show(!M.L.isEmpty)=false by rw[hL];rfl]at HCa
  obtain⟨z,hz⟩:∃z,z=Gz M.L:=⟨_,rfl⟩
  rw[<-hz]at HCa
  unfold A3 at HCa
  unfold Cc
  clear h hO hT hp hz hL HR
  go_enter func135,ntmps135
  go_wp2_with fail
  refine HCa.out.mono ?_
  rintro e w1 ⟨rfl,b1⟩
  have HB2:Hid (Below w.heap.size w (w1.alloc (.cells #[.int .i64 z.seq,.int .i64 z.ent,.int .i64 z.kind,.int .i64 z.tick] 147))):=b1.alloc b1.size _
  clear b1
  go_upto_region 2 with fail
  generalize World.alloc _ _=w3 at HB2 ⊢
  go_wp2_with fail
  go_ret
  exact⟨rfl,HB2.out⟩
 ·rw[if_neg hL]
  rw[show(!M.L.isEmpty)=true by cases hh:M.L with|nil=>exact absurd hh hL|cons a b=>rfl]at HCa
  have hrt:=HR.out hL
  obtain⟨z,hz⟩:∃z,z=Gz M.L:=⟨_,rfl⟩
  rw[<-hz]at HCa hrt ⊢
  have HTd:=Aia (fun W (hW:Below w.heap.size w W)=>Ul B z W (hT.low hW hBt) (Nat.le_trans hBt hW.size) hrt)
  unfold A3 at HCa HTd
  unfold Cc
  obtain⟨s,hs⟩:∃s,s=Fc (Fd z):=⟨_,rfl⟩
  rw[<-hs]at HTd ⊢
  clear h hO hT hp hz hL HR hrt hs
  go_enter func135,ntmps135
  go_wp2_with fail
  refine HCa.out.mono ?_
  rintro e w1 ⟨rfl,b1⟩
  have HB2:Hid (Below w.heap.size w (w1.alloc (.cells #[.int .i64 z.seq,.int .i64 z.ent,.int .i64 z.kind,.int .i64 z.tick] 147))):=b1.alloc b1.size _
  have HX:Hid ((w1.alloc (.cells #[.int .i64 z.seq,.int .i64 z.ent,.int .i64 z.kind,.int .i64 z.tick] 147)).heap[w1.heap.size]? =some (Fq z)):=Ab w1 (.cells #[.int .i64 z.seq,.int .i64 z.ent,.int .i64 z.kind,.int .i64 z.tick] 147)
  clear b1
  go_upto_region 2 with fail
  generalize World.alloc _ _=w3 at HB2 HX ⊢
  obtain⟨x0,x1,x2,x3⟩:=Bn (show w3.heap[w1.heap.size]? =some (.cells #[.int .i64 z.seq,.int .i64 z.ent,.int .i64 z.kind,.int .i64 z.tick] 147)from HX.out)
  have HTd3:=Aia (HTd.out w3 HB2.out)
  go_wp2_with fail
  refine HTd3.out.mono ?_
  rintro e w4 ⟨rfl,b4⟩
  have HB4:=Aia (HB2.out.trans (b4.mono HB2.out.size))
  clear b4
  go_wp2_with fail
  go_ret
  exact⟨rfl,HB4.out⟩
structure R9 (w:World) (p:Nat) (L:List Ar) (i:Nat) (v:Value) (b off:Nat) (wr:World):Prop where
 own:wr.ownsRow p 9 1 v i (Ad ((L.map fun r=>Fc (Fd r)).take i))
 rc:∀k (hk:k<L.length),wr.cell? ⟨b,off+k*4,none⟩=some (.int .i64 L[k].seq)/\wr.cell? ⟨b,off+k*4+1,none⟩=some (.int .i64 L[k].ent)/\wr.cell? ⟨b,off+k*4+2,none⟩=some (.int .i64 L[k].kind)/\wr.cell? ⟨b,off+k*4+3,none⟩=some (.int .i64 L[k].tick)
 bel:Below w.heap.size w wr
 lo:w.heap.size<=p
 hi:p<=wr.heap.size
 bp:b<p
theorem R9.below{w wr w':World}{p i b off:Nat}{L:List Ar}{v:Value}(h:R9 w p L i v b off wr)(k:Below wr.heap.size wr w'):R9 w p L i v b off w':=by
 have hb:b<wr.heap.size:=Nat.lt_of_lt_of_le h.bp h.hi
 refine⟨Dy h.own (Ak k) (fun _ _ _ h=>h),fun j hj=>?_,h.bel.trans (k.mono h.bel.size),h.lo,Nat.le_trans h.hi k.size,h.bp⟩
 obtain⟨a1,a2,a3,a4⟩:=h.rc j hj
 exact⟨by rw[k.cell (p:=⟨b,_,none⟩) hb];exact a1,by rw[k.cell (p:=⟨b,_,none⟩) hb];exact a2,by rw[k.cell (p:=⟨b,_,none⟩) hb];exact a3,by rw[k.cell (p:=⟨b,_,none⟩) hb];exact a4⟩
theorem R9.next{w wz W w':World}{p i b off:Nat}{L:List Ar}{v v':Value}(h:R9 w p L i v b off wz)(hi:i<L.length)(hb:Below wz.heap.size wz W)(ho:w'.ownsRow p 9 1 v' (i+1) (Ad ((L.map fun r=>Fc (Fd r)).take i)++Ad [Fc (Fd L[i])]))(hg:W.grownBy w' v.ownBlock):R9 w p L (i+1) v' b off w':=by
 have h2:=h.below hb
 have kg:Ae (fun b=>some b=v.ownBlock) W w':=Ae.of_grown hg
 have hl:=fun b (hb:some b=v.ownBlock)=>(h2.own.lt b hb.symm).1
 have hbw:b<W.heap.size:=Nat.lt_of_lt_of_le h2.bp h2.hi
 have hnb:¬some b=v.ownBlock:=fun hh=>by have:=hl b hh;have:=h2.bp;omega
 refine⟨?_,fun k hk=>?_,h2.bel.trans (kg.below h2.bel.size (fun b hb=>by have:=hl b hb;have:=h2.lo;omega)),h2.lo,Nat.le_trans h2.hi kg.size,h2.bp⟩
 ·rw[List.take_succ_eq_append_getElem (by rw[List.length_map];exact hi),M1,List.getElem_map];exact ho
 ·obtain⟨a1,a2,a3,a4⟩:=h2.rc k hk
  exact⟨by rw[kg.cell (p:=⟨b,_,none⟩) hbw hnb];exact a1,by rw[kg.cell (p:=⟨b,_,none⟩) hbw hnb];exact a2,by rw[kg.cell (p:=⟨b,_,none⟩) hbw hnb];exact a3,by rw[kg.cell (p:=⟨b,_,none⟩) hbw hnb];exact a4⟩
theorem yX{L:List Ar}(h:∀r∈L,Wg r)(h8:L.length<=8):(Lib.join (L.map Fd) [44,32]).length<=1000:=by
 cases L with
 |nil=>decide
 |cons a l=>
  rw[List.map_cons,Lib.join_length]
  have:∀l:List Ar,(∀r∈l,Wg r)->Lib.lens (l.map Fd)<=l.length*87:=by
   intro l
   induction l with
   |nil=>intro _;simp[Lib.lens]
   |cons b l ih=>
    intro hh
    have h1:=Xl (hh b List.mem_cons_self)
    have h2:=ih (fun r hr=>hh r (List.mem_cons_of_mem _ hr))
    simp only[Lib.lens,List.map_cons,List.sum_cons,List.length_cons]at h2 ⊢
    omega
  have h2:=this (a::l) h
  rw[List.map_cons]at h2
  simp only[List.length_cons,List.length_map,List.length_nil]at h2 h8 ⊢
  omega
theorem U6(L:List Ar):((L.map fun r=>Fc (Fd r)).map (·.data.toList))=L.map Fd:=by
 rw[List.map_map]
 refine List.map_congr_left (fun r _=>?_)
 exact Pk _
theorem Ab2(h:Bh B sa w0 kb c txt x M o w)(hO:B8 M T)(hT:J4 B w)(hp:w.heap[pb]? =some (plC kb c)):
  Calls Tryz.prog 138 #[.pointer (some ⟨pb,0,none⟩)] w (Cc (Es txt M 12 []).2.1 w):=by
 obtain⟨i0,hi0,hz0,hz1,hz2⟩:=info_parts infoStr
 have qn:∀(w:World) (a:Option Addr) (n c n' c':Nat),(binOp .eql 22 (.slice a n c) (.slice none n' c')).run Tryz.prog w=.ok (.bool a.isNone) w:=fun w a n c n' c'=>Lib.run_eql_slice_nil w _ _ a n c n' c' underlying22
 obtain⟨p0,p1⟩:=Fe hp
 have HLg:=Aia (Aaw h hO)
 show Calls _ _ _ _ (Cc (Up M.L) w)
 have HR:=Aia hO.recs
 have HBt:=Aia h.top
 have HT:=Aia hT
 have h8:=hO.l8.1
 obtain⟨L,hL⟩:∃L,L=M.L:=⟨_,rfl⟩
 rw[<-hL]at HLg HR h8 ⊢
 unfold Cc
 clear h hO hT hp hL
 by_cases hn:L= []
 ·subst hn
  have hsl:Up []=Em:=rfl
  rw[hsl]
  go_enter func138,ntmps138
  go_wp2_with fail
  refine HLg.out.mono ?_
  rintro e w1 ⟨v,rfl,sv,b1⟩
  obtain⟨ao,cap,rfl⟩:=sv.val
  have HB1:=Aia b1
  clear sv b1
  go_wp2_with fail
  go_loopw [3,12] (fun s3 s12 wr=>s3=.slice none 0 0/\s12=.int .i64 0/\wr=w1) (fun _ _ _=>0)
  case atStart=>exact⟨rfl,rfl,rfl⟩
  case round=>
   obtain⟨rfl,rfl,rfl⟩:=hrel
   go_wp2_with fail
   go_ret
   exact⟨rfl,HB1.out⟩
 ·have h0:0<L.length:=List.length_pos_iff.2 hn
  have hsl:Up L=Fc (Lib.join (L.map Fd) [44,32]):=if_neg hn
  have HSL:=Aia hsl
  clear hn hsl
  go_enter func138,ntmps138
  go_wp2_with fail
  refine HLg.out.mono ?_
  rintro e w1 ⟨v,rfl,sv,b1⟩
  obtain⟨ao,cap,rfl⟩:=sv.val
  obtain⟨b,off,rfl,hRb,hb,hc⟩:=Pq sv h0
  have HST0:Hid (R9 w w1.heap.size L 0 (.slice none 0 0) b off w1):=Aia (⟨World.ownsRow_nil _ _ _ _,hc,b1,b1.size,Nat.le_refl _,hb⟩)
  clear sv hc hRb hb b1 HLg
  generalize hp:w1.heap.size=p at HST0 ⊢
  clear hp
  obtain⟨n,hnn⟩:∃n,n=L.length:=⟨_,rfl⟩
  have HN:=Aia hnn
  rw[<-hnn]at h0 h8 ⊢
  clear hnn
  go_wp2_with fail
  go_loopw [3,12] (fun s3 s12 wr=>∃(i:Nat) (a1:Option Addr) (j1:Nat),i<=n/\s3=.slice a1 i j1/\s12=.int .i64 i/\Hid (R9 w p L i (.slice a1 i j1) b off wr)) (fun _ s12 _=>n-(intOf s12).toNat)
  case atStart=>exact⟨0,none,0,Nat.zero_le _,rfl,rfl,HST0⟩
  case round=>
   obtain⟨i,a1,j1,hi,rfl,rfl,hst⟩:=hrel
   clear HST0
   by_cases hlt:i<n
   ·have hltI:(i:Int)<n:=by omega
    have hil:i<L.length:=by have:=HN.out;omega
    obtain⟨q0,q1,q2,q3⟩:=hst.out.rc i hil
    have hrt:=HR.out L[i] (List.getElem_mem hil)
    have HNx:=Aia (fun wz W w' v' (bz:Below wr.heap.size wr wz) hb ho hg=>(hst.out.below bz).next (W:=W) (w':=w') (v':=v') hil hb ho hg)
    have HLay:=Aia (fun wz (bz:Below wr.heap.size wr wz) (x:Obj)=>And.intro ((hst.out.below bz).own.alloc x) (show p<=(wz.alloc x).heap.size by rw[World.size_alloc];have:=(hst.out.below bz).hi;omega))
    have HBW:=Aia (And.intro hst.out.bel (And.intro hst.out.bp hst.out.hi))
    obtain⟨r,hr⟩:∃r,r=L[i]:=⟨_,rfl⟩
    rw[<-hr]at q0 q1 q2 q3 hrt HNx
    have HTd:=Aia (fun W (hW:Below wr.heap.size wr W)=>Ul B r W (HT.out.low (HBW.out.1.trans (hW.mono HBW.out.1.size)) HBt.out) (by have:=HBt.out;have:=HBW.out.1.size;have:=hW.size;omega) hrt)
    obtain⟨S,hS⟩:∃S:ByteArray,S=Fc (Fd r):=⟨_,rfl⟩
    obtain⟨cs,hcs⟩:∃cs,cs=Ad ((L.map fun r=>Fc (Fd r)).take i):=⟨_,rfl⟩
    rw[<-hS,<-hcs]at HNx
    rw[<-hS]at HTd
    have HLay2:Hid (∀wz (bz:Below wr.heap.size wr wz) (x:Obj),(wz.alloc x).ownsRow p 9 1 (.slice a1 i j1) i cs/\p<=(wz.alloc x).heap.size):=Aia (by rw[hcs];exact HLay.out)
    have h63:Hid (i+1<=maxLen):=Aia (by unfold maxLen;omega)
    have hby:Hid ((i+1)*16<=140737488355328):=Aia (by omega)
    unfold A3 at HTd
    have hbr:b<wr.heap.size:=by have:=HBW.out;omega
    have HBA:Hid (Below wr.heap.size wr (wr.alloc (.cells #[.int .i64 r.seq,.int .i64 r.ent,.int .i64 r.kind,.int .i64 r.tick] 147))):=(Below.refl wr.heap.size wr).alloc (Nat.le_refl _) _
    have HX:Hid ((wr.alloc (.cells #[.int .i64 r.seq,.int .i64 r.ent,.int .i64 r.kind,.int .i64 r.tick] 147)).heap[wr.heap.size]? =some (Fq r)):=Ab wr (.cells #[.int .i64 r.seq,.int .i64 r.ent,.int .i64 r.kind,.int .i64 r.tick] 147)
    clear hst HLay hr hS hcs hrt HBW hil
    go_upto_region 5 with fail
    generalize World.alloc _ _=w3 at HBA HX ⊢
    clear q0 q1 q2 q3
    obtain⟨x0,x1,x2,x3⟩:=Bn (show w3.heap[wr.heap.size]? =some (.cells #[.int .i64 r.seq,.int .i64 r.ent,.int .i64 r.kind,.int .i64 r.tick] 147)from HX.out)
    have HTd3:=Aia (HTd.out w3 HBA.out)
    go_wp2_with fail
    refine HTd3.out.mono ?_
    rintro e wz ⟨rfl,bz⟩
    have HBZ:=Aia (HBA.out.trans (bz.mono HBA.out.size))
    clear bz x0 x1 x2 x3
    go_wp2_with (at_builtin;go_must (refine A9 rfl (.tmp 16) (.tmp 19) 22 rfl p 9 i0 _ 1 16 underlying22 hi0 hz0 hz1 hz2 rfl (by decide) _ i _ rfl (HLay2.out wz HBZ.out _).1 ⟨wz.heap.size,0,none⟩ 1 1 (Ad [S]) rfl rfl (Av _ (Ad [S]) _) (Kb _) h63.out hby.out (HLay2.out wz HBZ.out _).2 ?_;intro a2 k2 w4 ho hg;have nx:=Aia (HNx.out wz _ w4 _ HBZ.out ((Below.refl _ _).alloc (Nat.le_refl _) _) ho hg);clear ho hg))
    go_roundw
    case rel=>exact⟨i+1,a2,k2,by omega,rfl,by go_num,nx⟩
    case measure=>simp[intOf];omega
   ·obtain rfl:i=n:=by omega
    have hin:=HN.out
    have hsl:=E7 hst.out.own
    rw[List.take_of_length_le (by rw[List.length_map];omega)]at hsl
    have hll:(L.map fun r=>Fc (Fd r)).length=i:=by rw[List.length_map];exact hin.symm
    obtain⟨hl4,ao,cap,hv,hc1,hc2,hc3,hc4⟩:=id hsl
    injection hv with e1 e2 e3
    subst e1;subst e3
    obtain⟨jb,joff,rfl,hR,hbl,hcell⟩:=Eh (ao:=a1) (n:=i) (cap:=j1) (l:=L.map fun r=>Fc (Fd r)) (by rw[hll];exact hsl) (by omega)
    have HJ:=Tryz.strings_Join jb joff j1 (L.map fun r=>Fc (Fd r)) ⟨#[44,32]⟩ wr (fun j x hx=>by
     obtain⟨hj,rfl⟩:=List.getElem?_eq_some_iff.1 hx
     exact hcell j hj) hbl (by omega) (by omega) (by
     rw[U6]
     have:=yX HR.out (by omega)
     show(Lib.join (L.map Fd) [44,32]).length<=_
     omega)
    rw[U6,hll]at HJ
    have HJ2:Hid (Calls Tryz.prog 139 #[.slice (some ⟨jb,joff,none⟩) i j1,.string ⟨#[44,32]⟩] wr fun e w'=>e=.returned (.string (Up L))/\Below wr.heap.size wr w'):=Aia (by
     rw[HSL.out];exact HJ)
    have HB:=Aia hst.out.bel
    clear HJ hst hsl hl4 hc1 hc2 hc3 hc4 hcell hbl hR HSL HT HR hll hin HN
    go_wp2_with fail
    refine HJ2.out.mono ?_
    rintro e wz ⟨rfl,bz⟩
    have HB2:=Aia (HB.out.trans (bz.mono HB.out.size))
    clear bz
    go_wp2_with fail
    go_ret
    exact⟨rfl,HB2.out⟩
end
end Go.Proofs.YtikehilbmldadaaGreatDoor
namespace Go.Proofs.YtikehilbmldadaaGreatDoor
open Go.RowKit
section
variable {B:Nat} {sa:Nat->Addr} {w0:World} {kb c pb:Nat} {txt:ByteArray} {x:KpX} {M:KpM} {o:Nat->Nat} {w:World} {T:Nat}
theorem Afk(l:List UInt8):(Lib.trimSuffix l [10]).length<=l.length:=by
 unfold Lib.trimSuffix
 split
 ·rw[List.length_take];omega
 ·exact Nat.le_refl _
theorem Ab1(h:Bh B sa w0 kb c txt x M o w)(hp:w.heap[pb]? =some (plC kb c))(htx:txt.size<=100000):
  Calls Tryz.prog 140 #[.pointer (some ⟨pb,0,none⟩)] w (Cc (Es txt M 13 []).2.1 w):=by
 obtain⟨p0,p1⟩:=Fe hp
 have HB:=Aia (tX h)
 have HT:=Aia (Tryz.strings_TrimSuffix txt ⟨#[10]⟩ w (by omega))
 have HR:=Aia (Sf (Fc (Qr txt.data.toList)) w (by
  rw[yS]
  have:=Afk txt.data.toList
  have hz:txt.data.toList.length=txt.size:=by rw[Array.length_toList];rfl
  unfold Qr
  omega))
 rw[Pk]at HR
 show Calls _ _ _ _ (Cc (Lo txt) w)
 unfold Lo
 obtain⟨ss,hss⟩:∃ss,ss=Fc (P8 (Qr txt.data.toList)):=⟨_,rfl⟩
 rw[<-hss]at HR ⊢
 have HT2:Hid (Calls Tryz.prog 72 #[.string txt,.string ⟨#[10]⟩] w fun e w'=>e=.returned (.string (Fc (Qr txt.data.toList)))/\w'=w):=HT.out
 obtain⟨st,hst⟩:∃st,st=Fc (Qr txt.data.toList):=⟨_,rfl⟩
 rw[<-hst]at HR HT2
 unfold Cc
 clear h hp htx HT hss hst
 go_enter func140,ntmps140
 go_wp2_with fail
 refine HB.out.mono ?_
 rintro e w1 ⟨rfl,rfl⟩
 go_wp2_with fail
 refine HT2.out.mono ?_
 rintro e w1 ⟨rfl,rfl⟩
 go_wp2_with fail
 refine HR.out.mono ?_
 rintro e w1 ⟨rfl,b1⟩
 go_wp2_with fail
 go_ret
 exact⟨rfl,b1⟩
end
end Go.Proofs.YtikehilbmldadaaGreatDoor
namespace Go.Proofs.YtikehilbmldadaaGreatDoor
open Go.RowKit
theorem Abd(C:Al):Hm C= [119,105,110,100,111,119,32]++Lib.itoa C.closed++ [32]++Lib.itoa C.opn++ [10,99,121,99,108,101,32]++Lib.itoa C.cycle++ [10,100,101,108,97,121,32]++Lib.itoa C.delay++ [10]:=by
 simp[Hm,G2,Ca,upB,Ob,B3,Ii,Je,N6,List.range_succ]
end Go.Proofs.YtikehilbmldadaaGreatDoor
namespace Go.Proofs.YtikehilbmldadaaGreatDoor
open Go.RowKit
structure Sz (E:Ap):Prop where
 c:E.count= -1
 g:E.gaps= []
 e:E.edges= []
 f:E.first= []
 l:E.last= []
theorem Aaa{L:List ByteArray}(h:∀s∈L,s.size<=12):(Aq (L.map Hi)).length<=19*L.length:=by
 have h1:=Pw (fun s=>Ca (Hi s)) 19 L (fun s hs=>by
  have:=h s hs
  rw[dsize]at this
  rw[Adn,List.length_append,List.length_append]
  simp only[List.length_cons,List.length_nil]
  omega)
 unfold Aq
 rw[List.flatMap_map]
 exact h1
theorem zW{E:Ap}(h:Fu E)(q:Sz E):(Aq (B6 E)).length<=400:=by
 have hc:Ew E= []:=by unfold Ew;rw[if_neg (by rw[q.c];decide)]
 have h1:=Aaa h.ps
 have h2:=h.pl
 have h3:=h.name
 rw[dsize]at h3
 have h4:=h.tol
 have h5:=Ow E.tol h4.1 (by omega)
 rw[Abr,hc,q.g,q.e,q.f,q.l,Ado]
 simp only[List.length_append,List.length_cons,List.length_nil,List.map_nil,Aq,List.flatMap_nil]at h1 ⊢
 omega
theorem tE{C:Al}(hC:B7 C=(0,-1))(hq:∀E∈C.ents,Sz E):(Df C).length<=8000:=by
 have hb:=(Cw hC).1
 unfold Dt at hb
 rw[decide_eq_false_iff_not]at hb
 have h1:=Pw (fun E=>Aq (B6 E)) 400 C.ents (fun E hE=>by
  have hqE:=hq E hE
  obtain⟨i,hi,rfl⟩:=List.getElem_of_mem hE
  have:=(Cw hC).2.2 i hi
  rw[Mp hi]at this
  exact zW (T6 this) hqE)
 have h2:C.ents.length<=8:=by omega
 have h3:=Nat.mul_le_mul_left 400 h2
 have i1:=Ow C.closed (by omega) (by omega)
 have i2:=Ow C.opn (by omega) (by omega)
 have i3:=Ow C.cycle (by omega) (by omega)
 have i4:=Ow C.delay (by omega) (by omega)
 unfold Df
 rw[Abd]
 simp only[List.length_append,List.length_cons,List.length_nil]
 omega
end Go.Proofs.YtikehilbmldadaaGreatDoor
namespace Go.Proofs.YtikehilbmldadaaGreatDoor.scriptReads
open Go.ChangeShapes Go.WideShapes Go.ChangeAt Go.RowKit
def plainL:List (String × DataW Unit):=Rows.scriptReadsRow.laid.filter fun x=>x.2.handleName?.isNone
def numL:List (String × List UInt8):=[("strconv.ErrRange",[118,97,108,117,101,32,111,117,116,32,111,102,32,114,97,110,103,101]),("strconv.ErrSyntax",[105,110,118,97,108,105,100,32,115,121,110,116,97,120])]
theorem num_eq:plainL.filter (fun x=>decide (x.1∈ ["strconv.ErrRange","strconv.ErrSyntax"]))=(numL.map fun x=>(x.1,Xj x.2)):=by kernel_rfl
theorem sent_eq:plainL.filter (fun x=>decide (x.1∈Rh.map (·.1)))=(Rh.map fun x=>(x.1,Xj x.2)):=by kernel_rfl
theorem nm0:Tryz.prog.globalNamed "strconv.ErrRange"=some 14:=by kernel_rfl
theorem nm1:Tryz.prog.globalNamed "strconv.ErrSyntax"=some 13:=by kernel_rfl
theorem ty0:(Tryz.prog.globals[14]?).map (·.type)=some 25:=by kernel_rfl
theorem ty1:(Tryz.prog.globals[13]?).map (·.type)=some 25:=by kernel_rfl
theorem nums_of{W:World}(h:laidMet Tryz.prog (numL.map fun x=>(x.1,Xj x.2)) W):(∃t p,W.cell? ⟨14,0,none⟩=some (.iface t p))/\∃t p,W.cell? ⟨13,0,none⟩=some (.iface t p):=by
 obtain⟨ps,hv,hnd,hrows⟩:=h
 obtain⟨bs,q1,q2,q3,q4⟩:=X8 underlying25 rowE underlying372 underlying374 rfl rfl underlying9 cellsE cellsS numL [14,13] rfl (fun k h1 h2=>by
  match k,h1 with
  |0,_=>exact⟨nm0,ty0⟩
  |1,_=>exact⟨nm1,ty1⟩) ps hv hnd hrows
 have h2:bs.length=2:=q1
 exact⟨⟨_,_,q4 0 (by decide) (by decide) (by omega)⟩,⟨_,_,q4 1 (by decide) (by decide) (by omega)⟩⟩
theorem laid_all{W:World}(h:laidMetH Tryz.prog Rows.scriptReadsRow.laid W):∃sa,Dp W.heap.size sa W/\(∀k,k<11->W.cell? (sa k)=some (.string (Ib (k+1))))/\Ra W.heap.size W/\J4 W.heap.size W:=by
 have hL2:laidMet Tryz.prog plainL W/\handlesMet Tryz.prog [("errors.errorType",xU)] W:=h
 have h6:=laidMet.filter (fun x=>decide (x.1∈Rh.map (·.1))) hL2.1
 rw[sent_eq]at h6
 have h2:=laidMet.filter (fun x=>decide (x.1∈ ["strconv.ErrRange","strconv.ErrSyntax"])) hL2.1
 rw[num_eq]at h2
 obtain⟨sa,hs,htx⟩:=yU h6 hL2.2
 obtain⟨er,es⟩:=nums_of h2
 have hT:J4 W.heap.size W:=Afm (rest:=(plainL.drop 3)) (laidMet.tail (laidMet.tail (show laidMet Tryz.prog (("math/bits.deBruijn32tab",Rows.laid_math_bits_deBruijn32tab)::("math/bits.deBruijn64tab",Rows.laid_math_bits_deBruijn64tab)::("internal/strconv.uint64pow10",Lib.tabData .u64 Lib.pow10Tab)::plainL.drop 3) W from hL2.1)))
 have hl:∀{g:Nat} {v:Value},W.cell? ⟨g,0,none⟩=some v->g<W.heap.size:=fun hc=>World.block_lt_of_cell? _ ⟨_,0,none⟩ hc
 refine⟨sa,hs,htx,⟨hT,es,er,?_⟩,hT⟩
 obtain⟨_,_,e1⟩:=er
 obtain⟨_,_,e2⟩:=es
 exact⟨hl e2,hl e1⟩
noncomputable def base0 (os:Os):World:=(World.holding Tryz.prog os ⟨#[],#[],[]⟩).setCell ⟨11,0,none⟩ (.iface 283 (.agg #[.pointer (some ⟨25,25,none⟩)]))
noncomputable def doorW (os:Os):World:=(base0 os).layVars Tryz.prog plainL
theorem doorW_os(os:Os):(doorW os).os=os:=World.layVars_os _ _ _
theorem plain_met(os:Os)(args:Array Value):laidMet Tryz.prog plainL ((doorW os).forCall (fun _ _=>0) ⟨#[],args,[]⟩).memory:=by
 have e1:(plainL.filter fun x=>(plainL.map (·.1)).contains x.1)=plainL:=List.filter_eq_self.2 fun x hx=>List.contains_iff_mem.2 (List.mem_map.2 ⟨x,hx,rfl⟩)
 have e2:(plainL.filter fun x=>!(plainL.map (·.1)).contains x.1)= []:=List.filter_eq_nil_iff.2 fun x hx=>by rw[List.contains_iff_mem.2 (List.mem_map.2 ⟨x,hx,rfl⟩)];simp
 have h:laidMet Tryz.prog plainL (doorW os):=laidMet_layVars (w0:=base0 os) (plainL.map (·.1)) [] (by rw[e1];rfl) (by rw[e1];kernel_rfl) (by rw[e1];kernel_rfl) (by rw[e2];exact LaidIn.none)
 exact h.of_heap (by simp[World.memory,World.forCall,Input.heap])
theorem door_met(os:Os)(args:Array Value):laidMetH Tryz.prog Rows.scriptReadsRow.laid ((doorW os).forCall (fun _ _=>0) ⟨#[],args,[]⟩).memory:=
 laidMetH_of_parts (plain_met os args) (by kernel_rfl)
end Go.Proofs.YtikehilbmldadaaGreatDoor.scriptReads

