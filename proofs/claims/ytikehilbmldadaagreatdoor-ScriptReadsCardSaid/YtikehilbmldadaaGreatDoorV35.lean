import Derived.Test.YtikehilbmldadaaGreatDoorV32
set_option maxHeartbeats 8000000
set_option maxRecDepth 100000
set_option linter.unusedVariables false
open Go.Proofs.Tryz Go.Proofs.YtikehilbmldadaaGreatDoor.Tryz
namespace Go.Proofs.YtikehilbmldadaaGreatDoor
section
open Go.RowKit
theorem Xx{w:World}{p:Nat}{nv:Value}{ns:List Nat}(hn:w.ownsRow p 3 1 nv ns.length (Ac (ns.map fun n:Nat=>(n:Int))))(h0:0<ns.length):
  ∃g cap,nv=.slice (some ⟨g,0,none⟩) ns.length cap/\p<=g/\∀k (hk:k<ns.length),w.cell? ⟨g,k,none⟩=some (.int .i64 (ns[k]:Nat)):=by
 have hsl:=E7 hn
 rcases hn.2 with⟨_,h⟩|⟨g,cap,cur,rfl,hp,_⟩
 ·omega
 ·obtain⟨hl,ao,cap',hv,h1,h2,h3,h4⟩:=hsl
  injection hv with e1 e2 e3
  subst e1
  obtain⟨b,off,ha,hR,hb,hc⟩:=h4 (by rw[hl];omega)
  injection ha with ha
  injection ha with ea eb
  subst ea;subst eb
  refine⟨g,cap,rfl,hp,fun k hk=>?_⟩
  have:=hc k (.int .i64 (ns[k]:Nat)) (by simp[Ac,hk])
  rwa [Nat.zero_add]at this
section
variable {B:Nat} {sa:Nat->Addr} {w0:World} {kb c pb:Nat} {txt:ByteArray} {x:KpX} {M:KpM} {o:Nat->Nat} {w:World} {T:Nat}
theorem Cc.go{s:ByteArray}{i:Nat}(h:Bh B sa w0 kb c txt x M o w)(he:Es txt M i []=(0,s,M)){e:Ending}{w':World}(hs:e=.returned (.tuple #[.string s,.nilIface])/\Below w.heap.size w w'):Er B sa w0 kb c txt (Es txt M i []) o w e w':=by
 rw[he]
 exact⟨hs.1,x,o,h.below hs.2,Fr.below o hs.2⟩
theorem Np:∀k,k<7->∀args w,(callFunc (Y4.getD k 0) args).run Tryz.prog w=.ok (.enter (Y4.getD k 0) args) w:=by
 intro k hk
 match k,hk with
 |0,_=>exact enters_of func131 (by kernel_rfl) rfl
 |1,_=>exact enters_of func132 (by kernel_rfl) rfl
 |2,_=>exact enters_of func133 (by kernel_rfl) rfl
 |3,_=>exact enters_of func134 (by kernel_rfl) rfl
 |4,_=>exact enters_of func135 (by kernel_rfl) rfl
 |5,_=>exact enters_of func138 (by kernel_rfl) rfl
 |6,_=>exact enters_of func140 (by kernel_rfl) rfl
theorem wD:∀i,i<14->∀args w,(callFunc (Tn i) args).run Tryz.prog w=.ok (.enter (Tn i) args) w:=by
 intro i hi
 match i,hi with
 |0,_=>exact enters_of func118 (by kernel_rfl) rfl
 |1,_=>exact enters_of func120 (by kernel_rfl) rfl
 |2,_=>exact enters_of func121 (by kernel_rfl) rfl
 |3,_=>exact enters_of func122 (by kernel_rfl) rfl
 |4,_=>exact enters_of func124 (by kernel_rfl) rfl
 |5,_=>exact enters_of func126 (by kernel_rfl) rfl
 |6,_=>exact enters_of func128 (by kernel_rfl) rfl
 |7,_=>exact enters_of func189 (by kernel_rfl) rfl
 |8,_=>exact enters_of func189 (by kernel_rfl) rfl
 |9,_=>exact enters_of func189 (by kernel_rfl) rfl
 |10,_=>exact enters_of func189 (by kernel_rfl) rfl
 |11,_=>exact enters_of func189 (by kernel_rfl) rfl
 |12,_=>exact enters_of func189 (by kernel_rfl) rfl
 |13,_=>exact enters_of func189 (by kernel_rfl) rfl
theorem Ahe(h:Bh B sa w0 kb c txt x M o w)(hO:B8 M T)(hT:J4 B w)(hp:w.heap[pb]? =some (plC kb c))(ho:o pb=0)(htx:txt.size<=100000){i:Nat}{ns:List Nat}(hi:i<14)(hl:ns.length=Gm i)(hTT:T+2*(if i=3 then ns.getD 0 0 else 0)<=400000)
  (b:Nat->Nat) (hb:∀k,k<7->w.heap[b k]? =some (.cells #[fnV (Y4.getD k 0)] 220)) (p:Nat) (nv:Value) (hn:w.ownsRow p 3 1 nv ns.length (Ac (ns.map fun n:Nat=>(n:Int)))) (hno:∀q,nv.ownBlock=some q->o q=0):
  Calls Tryz.prog (Tn i) (#[.pointer (some ⟨pb,0,none⟩),nv]++Q9 b i) w (Er B sa w0 kb c txt (Es txt M i ns) o w):=by
 have one:ns.length=1->∃n0 g cap,ns= [n0]/\nv=.slice (some ⟨g,0,none⟩) 1 cap/\o g=0/\w.cell? ⟨g,0,none⟩=some (.int .i64 (n0:Nat)):=by
  intro h1
  obtain⟨g,cap,rfl,_,hc⟩:=Xx hn (by omega)
  obtain⟨n0,rfl⟩:=List.length_eq_one_iff.1 h1
  exact⟨n0,g,cap,rfl,rfl,hno g rfl,hc 0 (by simp)⟩
 match i,hi with
 |0,_=>
  obtain⟨n0,g,cap,rfl,rfl,hg,h0⟩:=one hl
  exact Ae8 h hO hp ho g cap n0 h0 hg
 |1,_=>
  obtain⟨n0,g,cap,rfl,rfl,hg,h0⟩:=one hl
  exact Ae7 h hO hp ho g cap n0 h0 hg
 |2,_=>
  have h2:ns.length=2:=hl
  obtain⟨g,cap,rfl,_,hc⟩:=Xx hn (by omega)
  obtain⟨n0,n1,rfl⟩:∃n0 n1,ns= [n0,n1]:=(match ns,h2 with|[a,b],_=>⟨a,b,rfl⟩)
  exact Ae6 h hO hp ho g cap n0 n1 (hc 0 (by simp)) (hc 1 (by simp)) (hno g rfl)
 |3,_=>
  obtain⟨n0,g,cap,rfl,rfl,hg,h0⟩:=one hl
  exact Ae5 h hO hp ho g cap n0 h0 hg (by simpa using hTT)
 |4,_=>
  obtain⟨n0,g,cap,rfl,rfl,hg,h0⟩:=one hl
  exact Ae4 h hO hp ho g cap n0 h0 hg
 |5,_=>
  obtain rfl:=List.eq_nil_of_length_eq_zero (show ns.length=0 from hl)
  exact Ae3 h hO hp ho nv
 |6,_=>
  obtain⟨n0,g,cap,rfl,rfl,hg,h0⟩:=one hl
  exact Ae2 h hp g cap n0 h0
 |7,_=>
  obtain rfl:=List.eq_nil_of_length_eq_zero (show ns.length=0 from hl)
  exact(Kv _ (b 0) pb nv _ w (Np 0 (by decide)) (hb 0 (by decide)) (Ae1 h hO hT hp)).mono (fun e w' hs=>Cc.go h rfl hs)
 |8,_=>
  obtain rfl:=List.eq_nil_of_length_eq_zero (show ns.length=0 from hl)
  exact(Kv _ (b 1) pb nv _ w (Np 1 (by decide)) (hb 1 (by decide)) (Ae0 h hO hT hp)).mono (fun e w' hs=>Cc.go h rfl hs)
 |9,_=>
  obtain rfl:=List.eq_nil_of_length_eq_zero (show ns.length=0 from hl)
  exact(Kv _ (b 2) pb nv _ w (Np 2 (by decide)) (hb 2 (by decide)) (Ab5 h hp)).mono (fun e w' hs=>Cc.go h rfl hs)
 |10,_=>
  obtain rfl:=List.eq_nil_of_length_eq_zero (show ns.length=0 from hl)
  exact(Kv _ (b 3) pb nv _ w (Np 3 (by decide)) (hb 3 (by decide)) (Ab4 h hp)).mono (fun e w' hs=>Cc.go h rfl hs)
 |11,_=>
  obtain rfl:=List.eq_nil_of_length_eq_zero (show ns.length=0 from hl)
  exact(Kv _ (b 4) pb nv _ w (Np 4 (by decide)) (hb 4 (by decide)) (Ab3 h hO hT hp)).mono (fun e w' hs=>Cc.go h rfl hs)
 |12,_=>
  obtain rfl:=List.eq_nil_of_length_eq_zero (show ns.length=0 from hl)
  exact(Kv _ (b 5) pb nv _ w (Np 5 (by decide)) (hb 5 (by decide)) (Ab2 h hO hT hp)).mono (fun e w' hs=>Cc.go h rfl hs)
 |13,_=>
  obtain rfl:=List.eq_nil_of_length_eq_zero (show ns.length=0 from hl)
  exact(Kv _ (b 6) pb nv _ w (Np 6 (by decide)) (hb 6 (by decide)) (Ab1 h hp htx)).mono (fun e w' hs=>Cc.go h rfl hs)
end
end
section
open Go.RowKit
theorem xG(w:World):(zeroValue 163).run Tryz.prog w=.ok (.agg #[.int .i64 0,.nilFunc]) w:=by kernel_rfl
structure PlC (w1 W:World) (mb:Nat) (b:Nat->Nat) (w2:World):Prop where
 map:w2.heap[mb]? =some (Hj (Lj b))
 box:∀k,k<7->w2.heap[b k]? =some (.cells #[fnV (Y4.getD k 0)] 220)
 bel:Below W.heap.size W w2
 bl1:Below w1.heap.size w1 w2
theorem PlC.old{w1 W:World}{mb:Nat}{b:Nat->Nat}{w2:World}(h:PlC w1 W mb b w2)(q:Nat)(y:Obj)(hy:W.heap[q]? =some y):w2.heap[q]? =some y:=Af h.bel hy (Aa hy)
theorem PlC.cell{w1 W:World}{mb:Nat}{b:Nat->Nat}{w2:World}(h:PlC w1 W mb b w2){q:Nat}{v:Value}(hy:w1.cell? ⟨q,0,none⟩=some v):w2.cell? ⟨q,0,none⟩=some v:=by
 rw[h.bl1.cell (p:=⟨q,0,none⟩) (World.block_lt_of_cell? w1 ⟨q,0,none⟩ hy)];exact hy
theorem xK(w1 W:World)(hW:Below w1.heap.size w1 W):Calls Tryz.prog 76 #[] W fun e w'=>∃mb b,e=.returned (.map (some mb))/\PlC w1 W mb b w':=by
 refine(gF W).mono ?_
 rintro e w' ⟨b,rfl,h1,h2,h3⟩
 exact⟨_,b,rfl,h1,h2,h3,hW.trans (h3.mono hW.size)⟩
theorem Sx{w:World}{q:Nat}{u v:Value}(h:w.heap[q]? =some (.cells #[u,v] 163)):w.cell? ⟨q,0,none⟩=some u/\w.cell? ⟨q,1,none⟩=some v/\∀k,w.frozen? ⟨q,k,none⟩=false:=by
 simp[World.cell?,World.frozen?,h]
structure PlD (w1:World) (m:Int) (fv:Value) (b:Nat->Nat) (cb:Nat) (w3:World):Prop where
 c:w3.heap[cb]? =some (.cells #[.int .i64 m,fv] 163)
 box:∀k,k<7->w3.heap[b k]? =some (.cells #[fnV (Y4.getD k 0)] 220)
 bel:Below w1.heap.size w1 w3
 lo:w1.heap.size<=cb
theorem PlC.after{w1 W w2:World}{mb:Nat}{b:Nat->Nat}(h:PlC w1 W mb b w2)(m:Int)(fv:Value):PlD w1 m fv b w2.heap.size (w2.alloc (.cells #[.int .i64 m,fv] 163)):=
 ⟨Ab _ _,fun k hk=>Cm _ (h.box k hk),h.bl1.alloc h.bl1.size _,h.bl1.size⟩
theorem PlC.ahead{w1 W w2:World}{mb:Nat}{b:Nat->Nat}(h:PlC w1 W mb b w2)(m:Int)(fv u v:Value)(hc:w2.heap[w1.heap.size]? =some (.cells #[u,v] 163))(hu:u=.int .i64 0):PlD w1 m fv b w1.heap.size ((w2.setCell ⟨w1.heap.size,0,none⟩ (.int .i64 m)).setCell ⟨w1.heap.size,1,none⟩ fv):=by
 have k:=(Ai w2 w1.heap.size 0 (.int .i64 m)).setCell (p:=⟨w1.heap.size,1,none⟩) (fun _=>rfl) fv
 refine⟨by rw[Am _ (Am _ hc)];rfl,fun j hj=>k.get (h.box j hj) (fun e=>?_),h.bl1.trans (k.below h.bl1.size (fun b hb=>by rw[hb];exact Nat.le_refl _)),Nat.le_refl _⟩
 have hb:=h.box j hj
 rw[show b j=w1.heap.size from e,hc]at hb
 injection hb with hb
 injection hb with h1 h2 h3
 have:=congrArg Array.size h1
 simp at this
structure PlL (wc:World) (i:Nat) (r:List ByteArray) (k:Nat) (ns:List Nat) (v:Value) (wr:World):Prop where
 pre:Xo i r k ns
 own:wr.ownsRow wc.heap.size 3 1 v k (Ac (ns.map fun n:Nat=>(n:Int)))
 bel:Below wc.heap.size wc wr
theorem PlL.below{wc wr w':World}{i k:Nat}{r:List ByteArray}{ns:List Nat}{v:Value}(h:PlL wc i r k ns v wr)(b:Below wr.heap.size wr w'):PlL wc i r k ns v w':=
 ⟨h.pre,Dy h.own (Ak b) (fun _ _ _ h=>h),h.bel.trans (b.mono h.bel.size)⟩
theorem PlL.next{wc wz W w':World}{i k n:Nat}{r:List ByteArray}{ns:List Nat}{v v':Value}(h:PlL wc i r k ns v wz)(hk:k<r.length)(hn:Ej r[k]=some n)(hg:¬(k=0/\i≠3/\i≠4/\9<n))(hb:Below wz.heap.size wz W)(ho:w'.ownsRow wc.heap.size 3 1 v' (k+1) (Ac (ns.map fun n:Nat=>(n:Int))++Ac [(n:Int)]))(hw:W.grownBy w' v.ownBlock):PlL wc i r (k+1) (ns++ [n]) v' w':=by
 have h2:=h.below hb
 have kg:Ae (fun b=>some b=v.ownBlock) W w':=Ae.of_grown hw
 refine⟨sF h.pre hk hn hg,?_,h2.bel.trans (kg.below h2.bel.size (fun b hb=>(h2.own.lt b hb.symm).1))⟩
 rw[List.map_append]
 have e:Ac (ns.map (fun n:Nat=>(n:Int))++ [n].map (fun n:Nat=>(n:Int)))=Ac (ns.map fun n:Nat=>(n:Int))++Ac [(n:Int)]:=by simp[Ac]
 rw[e];exact ho
section
variable {B:Nat} {sa:Nat->Addr} {w0:World} {kb c pb:Nat} {txt:ByteArray} {x:KpX} {M:KpM} {o:Nat->Nat} {w:World} {T:Nat}
theorem Aac(line:ByteArray)(h:Bh B sa w0 kb c txt x M o w)(hls:line.size<=100000){ws:ByteArray}{r:List ByteArray}(hpc:Bj 32 line=ws::r)(hi:Cp ws=none):
  Calls Tryz.prog 39 #[.pointer (some ⟨pb,0,none⟩),.string line] w (Er B sa w0 kb c txt (Dg txt M line) o w):=by
 have HSp:=Aia (Pm line 32 w (by omega))
 have hlen:(Bj 32 line).length=r.length+1:=by rw[hpc];rfl
 rw[hlen,hpc]at HSp
 have HCm:=Aia (fun(w1 W:World) (hW:Below w1.heap.size w1 W)=>xK w1 W hW)
 have H:=Aia h
 unfold Er
 rw[kL hpc hi]
 have HLK:Hid (∀(W:World) (mb:Nat) (b:Nat->Nat),W.heap[mb]? =some (Hj (Lj b))->(Instr.lookup 165 (.map (some mb)) (.string ws) true).run Tryz.prog W=.ok (.tuple #[.agg #[.int .i64 0,.nilFunc],.bool false]) W):=Aia (fun W mb b hm=>by
  rw[X1 underlying165 underlying9 xG W mb _ hm (To b) ws,Aez b hi]
  rfl)
 clear h hls hpc hi hlen
 go_enter func39,ntmps39
 go_wp2_with fail
 refine HSp.out.mono ?_
 rintro e w1 ⟨rfl,hw1⟩
 have x0:w1.cell? ⟨w.heap.size,0,none⟩=some (.string ws):=by rw[hw1,cell_of_row _ _ 0 _ _ _ (Ab w _)];rfl
 have HW1:=Aia (show Below w.heap.size w w1 from by rw[hw1];exact(Below.refl _ _).alloc (Nat.le_refl _) _)
 have l1:w.heap.size<w1.heap.size:=World.block_lt_of_cell? w1 ⟨w.heap.size,0,none⟩ x0
 clear hw1 HSp
 go_upto_region 2 with fail
 go_cut [7,8] (fun s7 s8 wx=>∃cb b,s7=.pointer (some ⟨cb,0,none⟩)/\s8=.bool false/\Hid (PlD w1 0 .nilFunc b cb wx))
 case first=>
  go_region_law (first|(go_simp;go_at_call 76;refine(HCm.out w1 _ ?_).mono ?_;(repeat(first|exact Below.refl _ _|refine Below.drew ?_|refine Below.alloc ?_ (Nat.le_refl _) _));rintro e w2 ⟨mb,b,rfl,hC⟩;have x2:=hC.cell x0;have l2:w.heap.size<w2.heap.size:=World.block_lt_of_cell? w2 ⟨w.heap.size,0,none⟩ x2;have lk:=HLK.out w2 mb b hC.map;have lk2:=fun ob=>HLK.out (w2.alloc ob) mb b (Cm ob hC.map);(try(have hc9:w2.heap[w1.heap.size]? =some (.cells #[.int .i64 0,.nilFunc] 163):=hC.old _ _ (Ab (World.drew w1) _);have HC9:=Aia hc9;obtain⟨c90,c91,c9f⟩:=Sx hc9;clear hc9));have HC:=Aia hC;clear hC))
  all_goals
   go_wp2_with fail
   go_meet
   first
    |exact⟨_,b,rfl,rfl,HC.out.after 0 .nilFunc⟩
    |exact⟨_,b,rfl,rfl,HC.out.ahead 0 .nilFunc _ _ HC9.out rfl⟩
 case rest=>
  obtain⟨cb,b,rfl,rfl,hD⟩:=hcut
  have hbw:=HW1.out.trans (hD.out.bel.mono HW1.out.size)
  have HKw:=Aia (And.intro (H.out.below hbw) (Fr.below o hbw))
  obtain⟨s0,_⟩:=HKw.out.1.b.se.all
  clear hD hbw x0 l1 HW1
  go_wp2_with fail
  go_quiet (fail)
  go_wp2_with fail
  go_ret2
  refine⟨rfl,x,o,HKw.out.1.below ?_,HKw.out.2.trans (Fr.below o ?_)⟩<;>exact Ag _ (Below.refl _ _)
end
end
section
open Go.RowKit
theorem kY{w w1:World}{ws:ByteArray}{r:List ByteArray}(h:w1.heap[w.heap.size]? =some (.cells ((ws::r).map Value.string).toArray 9))(k:Nat)(hk:k<r.length):w1.cell? ⟨w.heap.size,1+k,none⟩=some (.string r[k]):=by
 rw[cell_of_row _ _ _ _ _ _ h]
 simp[Nat.add_comm 1 k,hk]
section
variable {B:Nat} {sa:Nat->Addr} {w0:World} {kb c pb:Nat} {txt:ByteArray} {x:KpX} {M:KpM} {o:Nat->Nat} {w:World} {T:Nat}
theorem Aab(line:ByteArray)(h:Bh B sa w0 kb c txt x M o w)(hO:B8 M T)(hN:Ra B w)(hp:w.heap[pb]? =some (plC kb c))(ho:o pb=0)(htx:txt.size<=100000)(hls:line.size<=100000)(hT:T+2*Qs line<=400000)
  {ws:ByteArray} {r:List ByteArray} {i:Nat} (hpc:Bj 32 line=ws::r) (hi:Cp ws=some i):
  Calls Tryz.prog 39 #[.pointer (some ⟨pb,0,none⟩),.string line] w (Er B sa w0 kb c txt (Dg txt M line) o w):=by
 obtain⟨i0,hi0,hz0,hz1,hz2⟩:=info_parts infoInt
 have HSp:=Aia (Pm line 32 w (by omega))
 have hlen:(Bj 32 line).length=r.length+1:=by rw[hpc];rfl
 have hszs:=M8 32 line
 rw[hlen,hpc]at HSp hszs
 have HRS:=Aia (show r.length<=100000/\∀k (hk:k<r.length),r[k].size<=100000 from⟨by omega,fun k hk=>Nat.le_trans (hszs.2 _ (List.mem_cons_of_mem _ (List.getElem_mem hk))) hls⟩)
 have HCm:=Aia (fun(w1 W:World) (hW:Below w1.heap.size w1 W)=>xK w1 W hW)
 have H:=Aia h
 have hi14:=Ma hi
 obtain⟨ht3,ht4⟩:=sI hi
 have HM:=Aia (fun(hm:r.length≠Gm i)=>kN (txt:=txt) (M:=M) hpc hi hm)
 have HBad:=Aia (fun(hm:D7 i 0 r=none)=>sG (txt:=txt) (M:=M) hpc hi hm)
 have HGood:=Aia (fun ns (hm:r.length=Gm i) (hn:D7 i 0 r=some ns)=>kQ (txt:=txt) (M:=M) hpc hi hm hn)
 have HTk:=Aia (fun ns (hm:r.length=Gm i) (hn:D7 i 0 r=some ns)=>(show T+2*(if i=3 then ns.getD 0 0 else 0)<=400000 from by have:=I8 (Ur hpc hi hm hn);omega))
 have HLK:Hid (∀(W:World) (mb:Nat) (b:Nat->Nat),W.heap[mb]? =some (Hj (Lj b))->(Instr.lookup 165 (.map (some mb)) (.string ws) true).run Tryz.prog W=.ok (.tuple #[.agg #[.int .i64 (Gm i),.func (.func (Tn i)) #[] (Q9 b i)],.bool true]) W):=Aia (fun W mb b hm=>by
  rw[X1 underlying165 underlying9 xG W mb _ hm (To b) ws,Aey b hi]
  rfl)
 have he:=wD i hi14
 have HDo:=Aia (fun(wr:World) (hb:Below w.heap.size w wr) ns (hm:r.length=Gm i) (hn:D7 i 0 r=some ns) (hl:ns.length=Gm i) (b:Nat->Nat) (hbx:∀k,k<7->wr.heap[b k]? =some (.cells #[fnV (Y4.getD k 0)] 220)) (p:Nat) (nv:Value) (hown:wr.ownsRow p 3 1 nv ns.length (Ac (ns.map fun n:Nat=>(n:Int)))) (hpw:w.heap.size<=p)=>
  (Ahe (h.below hb) hO (hN.tab.low hb h.top) (Af hb hp (Aa hp)) ho htx hi14 hl (HTk.out ns hm hn) b hbx p nv hown (fun q hq=>by
   have:=(hown.lt q hq).1
   cases hz:o q with
   |zero=>rfl
   |succ z=>have:=(h.b.low q (by omega)).2;omega)).mono (fun e w' hh=>(show e=.returned (.tuple #[.string (Es txt M i ns).2.1,errv sa (Es txt M i ns).1])/\∃x' o',Bh B sa w0 kb c txt x' (Es txt M i ns).2.2 o' w'/\Fr o o' w w' from by
    obtain⟨h1,x',o',h2,h3⟩:=hh
    exact⟨h1,x',o',h2,(Fr.below o hb).trans h3⟩)))
 have HNm:=Aia (fun(wr:World) (hb:Below w.heap.size w wr) (s:ByteArray) (hs:s.size<=100000)=>Y3 B s hs wr (hN.below hb h.top) (Nat.le_trans h.top hb.size))
 unfold Er
 obtain⟨m,hm⟩:∃m,m=Gm i:=⟨_,rfl⟩
 obtain⟨F,hF⟩:∃F,F=Tn i:=⟨_,rfl⟩
 obtain⟨CP,hCP⟩:∃CP:(Nat->Nat)->Array Value,CP=fun b=>Q9 b i:=⟨_,rfl⟩
 have hCPb:∀b,Q9 b i=CP b:=fun b=>by rw[hCP]
 simp only[hCPb]at HLK HDo
 rw[<-hm,<-hF]at HLK
 rw[<-hF]at he HDo
 rw[<-hm]at HM HGood HDo
 clear h hO hN hp ho htx hls hT hpc hi hlen hszs hi14 HTk hF hCP hCPb hm
 go_enter func39,ntmps39
 go_wp2_with fail
 refine HSp.out.mono ?_
 rintro e w1 ⟨rfl,hw1⟩
 have hg1:w1.heap[w.heap.size]? =some (.cells ((ws::r).map Value.string).toArray 9):=by rw[hw1];exact Ab w _
 have x0:w1.cell? ⟨w.heap.size,0,none⟩=some (.string ws):=by rw[cell_of_row _ _ 0 _ _ _ hg1];rfl
 have HX:=Aia (fun k (hk:k<r.length)=>kY hg1 k hk)
 have HW1:=Aia (show Below w.heap.size w w1 from by rw[hw1];exact(Below.refl _ _).alloc (Nat.le_refl _) _)
 have l1:w.heap.size<w1.heap.size:=World.block_lt_of_cell? w1 ⟨w.heap.size,0,none⟩ x0
 clear hw1 HSp hg1
 go_upto_region 2 with fail
 go_cut [7,8] (fun s7 s8 wx=>∃cb b,s7=.pointer (some ⟨cb,0,none⟩)/\s8=.bool true/\Hid (PlD w1 m (.func (.func F) #[] (CP b)) b cb wx))
 case first=>
  go_region_law (first|(go_simp;go_at_call 76;refine(HCm.out w1 _ ?_).mono ?_;(repeat(first|exact Below.refl _ _|refine Below.drew ?_|refine Below.alloc ?_ (Nat.le_refl _) _));rintro e w2 ⟨mb,b,rfl,hC⟩;have x2:=hC.cell x0;have l2:w.heap.size<w2.heap.size:=World.block_lt_of_cell? w2 ⟨w.heap.size,0,none⟩ x2;have lk:=HLK.out w2 mb b hC.map;have lk2:=fun ob=>HLK.out (w2.alloc ob) mb b (Cm ob hC.map);(try(have hc9:w2.heap[w1.heap.size]? =some (.cells #[.int .i64 0,.nilFunc] 163):=hC.old _ _ (Ab (World.drew w1) _);have HC9:=Aia hc9;obtain⟨c90,c91,c9f⟩:=Sx hc9;clear hc9));have HC:=Aia hC;clear hC))
  all_goals
   go_wp2_with fail
   go_meet
   first
    |exact⟨_,b,rfl,rfl,HC.out.after _ _⟩
    |exact⟨_,b,rfl,rfl,HC.out.ahead _ _ _ _ HC9.out rfl⟩
 case rest=>
  obtain⟨cb,b,rfl,rfl,hD⟩:=hcut
  have hbw:=HW1.out.trans (hD.out.bel.mono HW1.out.size)
  have HKw:=Aia (And.intro (H.out.below hbw) (Fr.below o hbw))
  have HBW:=Aia hbw
  obtain⟨c0,c1,cf⟩:=Sx hD.out.c
  have y0:wc.cell? ⟨w.heap.size,0,none⟩=some (.string ws):=by rw[hD.out.bel.cell (p:=⟨w.heap.size,0,none⟩) l1];exact x0
  have HY:=Aia (fun k (hk:k<r.length)=>(show wc.cell? ⟨w.heap.size,1+k,none⟩=some (.string r[k])from by rw[hD.out.bel.cell (p:=⟨w.heap.size,1+k,none⟩) l1];exact HX.out k hk))
  have lc:w.heap.size<wc.heap.size:=World.block_lt_of_cell? wc ⟨w.heap.size,0,none⟩ y0
  have HD:=Aia hD.out
  clear hD hbw x0 l1 HX HW1 HCm HLK
  obtain⟨n,hn⟩:∃n,n=r.length:=⟨_,rfl⟩
  have HN:=Aia hn
  rw[<-hn]at HM HGood HDo ⊢
  have hnb:n<=100000:=by have:=HRS.out.1;omega
  clear hn
  by_cases hm:n=m
  ·have HMM:=Aia hm
   have hmi:((n:Int) != (m:Int))=false:=by rw[hm];simp
   clear hm HM
   go_upto_region 5 with fail
   have HST0:Hid (PlL wc i r 0 [] (.slice none 0 0) wc):=Aia (⟨sE i r,World.ownsRow_nil _ _ _ _,Below.refl _ _⟩)
   have hne:¬n=0\/n=0:=by omega
   rcases hne with hn0|hn0
   ·go_wp2_with fail
    go_loopw [9,38] (fun s9 s38 wr=>∃(k:Nat) (a1:Option Addr) (j1:Nat) (ns:List Nat),k<=n/\s9=.slice a1 k j1/\s38=.int .i64 k/\Hid (PlL wc i r k ns (.slice a1 k j1) wr)) (fun _ s38 _=>n-(intOf s38).toNat)
    case atStart=>exact⟨0,none,0,[],Nat.zero_le _,rfl,rfl,HST0⟩
    case round=>
     obtain⟨k,a1,j1,ns,hk,rfl,rfl,hst⟩:=hrel
     clear HST0
     by_cases hlt:k<n
     ·skip
      have hkr:k<r.length:=by have:=HN.out;omega
      have hltI:(k:Int)<(n:Int):=by omega
      have z0:wr.cell? ⟨w.heap.size,0,none⟩=some (.string ws):=by rw[hst.out.bel.cell (p:=⟨w.heap.size,0,none⟩) lc];exact y0
      have zk:wr.cell? ⟨w.heap.size,1+k,none⟩=some (.string r[k]):=by rw[hst.out.bel.cell (p:=⟨w.heap.size,1+k,none⟩) lc];exact HY.out k hkr
      have HBR:=Aia (HBW.out.trans (hst.out.bel.mono HBW.out.size))
      have HNk:=Aia (HNm.out wr HBR.out r[k] (HRS.out.2 k hkr))
      have HST:=Aia hst.out
      obtain⟨rk,hrk⟩:∃rk,rk=r[k]:=⟨_,rfl⟩
      have HRK:=Aia hrk
      rw[<-hrk]at zk HNk
      clear hst hrk
      go_wp2_with fail
      refine HNk.out.mono ?_
      rintro e wz ⟨nn,rfl,hnn,bz⟩
      have HBZ:=Aia bz
      have z0:wz.cell? ⟨w.heap.size,0,none⟩=some (.string ws):=by rw[bz.cell (p:=⟨w.heap.size,0,none⟩) (World.block_lt_of_cell? wr ⟨w.heap.size,0,none⟩ z0)];exact z0
      have HKz:=Aia (And.intro (H.out.below (HBR.out.trans (bz.mono HBR.out.size))) (Fr.below o (HBR.out.trans (bz.mono HBR.out.size))))
      clear bz zk HNk
      cases hq:Ej rk with
      |none=>
       have HB1:=Aia (HBad.out (Xn HST.out.pre hkr (.inl (by rw[<-HRK.out];exact hq))))
       obtain⟨s0,_⟩:=HKz.out.1.b.se.all
       clear hq hnn
       go_upto_region 11 with fail
       go_quiet (fail)
       go_wp2_with fail
       go_ret2
       rw[HB1.out]
       refine⟨rfl,x,o,HKz.out.1.below ?_,HKz.out.2.trans (Fr.below o ?_)⟩<;>exact Ag _ (Below.refl _ _)
      |some q=>
       obtain rfl:nn=(q:Int):=hnn q hq
       have HQ:=Aia (show Ej r[k]=some q from by rw[<-HRK.out];exact hq)
       have HNx:=Aia (fun(hg:¬(k=0/\i≠3/\i≠4/\9<q)) (W w':World) (v':Value) hb ho hw=>PlL.next (wz:=wz) (W:=W) (w':=w') (v':=v') (HST.out.below HBZ.out) hkr HQ.out hg hb ho hw)
       have HLay:=Aia (fun(x:Obj)=>And.intro ((HST.out.below HBZ.out).own.alloc x) (show wc.heap.size<=(wz.alloc x).heap.size by rw[World.size_alloc];have:=(HST.out.below HBZ.out).bel.size;omega))
       have HBB:=Aia (fun(hg:k=0/\i≠3/\i≠4/\9<q)=>HBad.out (Xn HST.out.pre hkr (.inr ⟨q,HQ.out,hg⟩)))
       have h63:Hid (k+1<=maxLen):=Aia (by unfold maxLen;omega)
       have hby:Hid ((k+1)*8<=140737488355328):=Aia (by omega)
       have hmes:Hid (n-(k+1)<n-k):=Aia (by omega)
       have hkn:Hid (k+1<=n):=hlt
       clear hq hnn
       by_cases hk0:k=0
       ·have hkb:((k:Int)==0)=true:=by rw[hk0];rfl
        have HK0:=Aia hk0
        clear hk0
        by_cases h3:i=3
        ·have hb3:(ws.toList== [116,105,99,107])=true:=by rw[ht3,h3];rfl
         have hg:=HNx.out (fun hh=>hh.2.1 h3)
         have HG:=Aia hg
         clear h3 hg ht3 ht4
         go_wp2_with (at_builtin;go_must (refine A9 rfl (.tmp 71) (.tmp 73) 48 rfl wc.heap.size 3 i0 _ 1 8 underlying48 hi0 hz0 hz1 hz2 rfl (by decide) _ k _ rfl (HLay.out _).1 ⟨wz.heap.size,0,none⟩ 1 1 (Ac [(q:Int)]) rfl rfl (Av _ (Ac [(q:Int)]) _) (Ff _) h63.out hby.out (HLay.out _).2 ?_;intro a2 k2 w4 ho hg;have nx:=Aia (HG.out _ w4 _ ((Below.refl _ _).alloc (Nat.le_refl _) _) ho hg);clear ho hg))
         go_roundw
         case rel=>exact⟨k+1,a2,k2,ns++ [q],hkn.out,rfl,by go_num,nx⟩
         case measure=>simp[intOf];have:=hmes.out;omega
        ·have hb3:(ws.toList== [116,105,99,107])=false:=by rw[ht3];exact decide_eq_false h3
         by_cases h4:i=4
         ·have hb4:(ws.toList== [99,117,116])=true:=by rw[ht4,h4];rfl
          have hg:=HNx.out (fun hh=>hh.2.2.1 h4)
          have HG:=Aia hg
          clear h3 h4 hg ht3 ht4
          go_wp2_with (at_builtin;go_must (refine A9 rfl (.tmp 71) (.tmp 73) 48 rfl wc.heap.size 3 i0 _ 1 8 underlying48 hi0 hz0 hz1 hz2 rfl (by decide) _ k _ rfl (HLay.out _).1 ⟨wz.heap.size,0,none⟩ 1 1 (Ac [(q:Int)]) rfl rfl (Av _ (Ac [(q:Int)]) _) (Ff _) h63.out hby.out (HLay.out _).2 ?_;intro a2 k2 w4 ho hg;have nx:=Aia (HG.out _ w4 _ ((Below.refl _ _).alloc (Nat.le_refl _) _) ho hg);clear ho hg))
          go_roundw
          case rel=>exact⟨k+1,a2,k2,ns++ [q],hkn.out,rfl,by go_num,nx⟩
          case measure=>simp[intOf];have:=hmes.out;omega
         ·have hb4:(ws.toList== [99,117,116])=false:=by rw[ht4];exact decide_eq_false h4
          by_cases h9:9<q
          ·have HB1:=Aia (HBB.out ⟨HK0.out,h3,h4,h9⟩)
           have h9I:(9:Int)<(q:Int):=by omega
           obtain⟨s0,_⟩:=HKz.out.1.b.se.all
           clear h3 h4 h9 ht3 ht4
           go_upto_region 11 with fail
           go_quiet (fail)
           go_wp2_with fail
           go_ret2
           rw[HB1.out]
           refine⟨rfl,x,o,HKz.out.1.below ?_,HKz.out.2.trans (Fr.below o ?_)⟩<;>exact Ag _ (Below.refl _ _)
          ·have hg:=HNx.out (fun hh=>h9 hh.2.2.2)
           have HG:=Aia hg
           have h9I:(q:Int)<=9:=by omega
           clear h3 h4 h9 hg ht3 ht4
           go_wp2_with (at_builtin;go_must (refine A9 rfl (.tmp 71) (.tmp 73) 48 rfl wc.heap.size 3 i0 _ 1 8 underlying48 hi0 hz0 hz1 hz2 rfl (by decide) _ k _ rfl (HLay.out _).1 ⟨wz.heap.size,0,none⟩ 1 1 (Ac [(q:Int)]) rfl rfl (Av _ (Ac [(q:Int)]) _) (Ff _) h63.out hby.out (HLay.out _).2 ?_;intro a2 k2 w4 ho hg;have nx:=Aia (HG.out _ w4 _ ((Below.refl _ _).alloc (Nat.le_refl _) _) ho hg);clear ho hg))
           go_roundw
           case rel=>exact⟨k+1,a2,k2,ns++ [q],hkn.out,rfl,by go_num,nx⟩
           case measure=>simp[intOf];have:=hmes.out;omega
       ·have hkb:((k:Int)==0)=false:=beq_eq_false_iff_ne.2 (by omega)
        have hg:=HNx.out (fun hh=>hk0 hh.1)
        have HG:=Aia hg
        clear hk0 hg ht3 ht4
        go_wp2_with (at_builtin;go_must (refine A9 rfl (.tmp 71) (.tmp 73) 48 rfl wc.heap.size 3 i0 _ 1 8 underlying48 hi0 hz0 hz1 hz2 rfl (by decide) _ k _ rfl (HLay.out _).1 ⟨wz.heap.size,0,none⟩ 1 1 (Ac [(q:Int)]) rfl rfl (Av _ (Ac [(q:Int)]) _) (Ff _) h63.out hby.out (HLay.out _).2 ?_;intro a2 k2 w4 ho hg;have nx:=Aia (HG.out _ w4 _ ((Below.refl _ _).alloc (Nat.le_refl _) _) ho hg);clear ho hg))
        go_roundw
        case rel=>exact⟨k+1,a2,k2,ns++ [q],hkn.out,rfl,by go_num,nx⟩
        case measure=>simp[intOf];have:=hmes.out;omega
     ·skip
      have hpre:D7 i 0 r=some ns:=Xm (by rw[<-HN.out,show n=k by omega];exact hst.out.pre)
      have hkm:k=m:=by have:=HMM.out;omega
      have HGo:=Aia (HGood.out ns HMM.out hpre)
      have hnl:ns.length=k:=hst.out.pre.1
      have hown:=hst.out.own
      rw[<-hnl]at hown
      have hbr:=HBW.out.trans (hst.out.bel.mono HBW.out.size)
      have HDR:=Aia (HDo.out wr hbr ns HMM.out hpre (by omega) b (fun q hq=>Af hst.out.bel (HD.out.box q hq) (Aa (HD.out.box q hq))) wc.heap.size (.slice a1 ns.length j1) hown HBW.out.size)
      rw[hnl]at HDR
      have d1:wr.cell? ⟨cb,1,none⟩=some (.func (.func F) #[] (CP b)):=by rw[hst.out.bel.cell (p:=⟨cb,1,none⟩) (World.block_lt_of_cell? wc ⟨cb,1,none⟩ c1)];exact c1
      have hlI:¬(k:Int)<(n:Int):=by omega
      clear hst hown hnl hpre hkm hbr
      go_wp2_with fail
      refine HDR.out.mono ?_
      rintro e w5 ⟨rfl,z⟩
      have HZ:=Aia z
      clear z HDR
      go_wp2_with fail
      go_ret2
      rw[HGo.out]
      exact⟨rfl,HZ.out⟩
   ·go_wp2_with fail
    go_loopw [9,38] (fun s9 s38 wr=>∃(k:Nat) (a1:Option Addr) (j1:Nat) (ns:List Nat),k<=n/\s9=.slice a1 k j1/\s38=.int .i64 k/\Hid (PlL wc i r k ns (.slice a1 k j1) wr)) (fun _ s38 _=>n-(intOf s38).toNat)
    case atStart=>exact⟨0,none,0,[],Nat.zero_le _,rfl,rfl,HST0⟩
    case round=>
     obtain⟨k,a1,j1,ns,hk,rfl,rfl,hst⟩:=hrel
     clear HST0
     by_cases hlt:k<n
     ·omega
     ·skip
      have hpre:D7 i 0 r=some ns:=Xm (by rw[<-HN.out,show n=k by omega];exact hst.out.pre)
      have hkm:k=m:=by have:=HMM.out;omega
      have HGo:=Aia (HGood.out ns HMM.out hpre)
      have hnl:ns.length=k:=hst.out.pre.1
      have hown:=hst.out.own
      rw[<-hnl]at hown
      have hbr:=HBW.out.trans (hst.out.bel.mono HBW.out.size)
      have HDR:=Aia (HDo.out wr hbr ns HMM.out hpre (by omega) b (fun q hq=>Af hst.out.bel (HD.out.box q hq) (Aa (HD.out.box q hq))) wc.heap.size (.slice a1 ns.length j1) hown HBW.out.size)
      rw[hnl]at HDR
      have d1:wr.cell? ⟨cb,1,none⟩=some (.func (.func F) #[] (CP b)):=by rw[hst.out.bel.cell (p:=⟨cb,1,none⟩) (World.block_lt_of_cell? wc ⟨cb,1,none⟩ c1)];exact c1
      have hlI:¬(k:Int)<(n:Int):=by omega
      clear hst hown hnl hpre hkm hbr
      go_wp2_with fail
      refine HDR.out.mono ?_
      rintro e w5 ⟨rfl,z⟩
      have HZ:=Aia z
      clear z HDR
      go_wp2_with fail
      go_ret2
      rw[HGo.out]
      exact⟨rfl,HZ.out⟩
  ·have HB1:=Aia (HM.out hm)
   have hmi:((n:Int) != (m:Int))=true:=bne_iff_ne.2 (by omega)
   obtain⟨s0,_⟩:=HKw.out.1.b.se.all
   clear hm HM
   go_upto_region 4 with fail
   go_quiet (fail)
   go_wp2_with fail
   go_ret2
   rw[HB1.out]
   refine⟨rfl,x,o,HKw.out.1.below ?_,HKw.out.2.trans (Fr.below o ?_)⟩<;>exact Ag _ (Below.refl _ _)
theorem Adg(line:ByteArray)(h:Bh B sa w0 kb c txt x M o w)(hO:B8 M T)(hN:Ra B w)(hp:w.heap[pb]? =some (plC kb c))(ho:o pb=0)(htx:txt.size<=100000)(hls:line.size<=100000)(hT:T+2*Qs line<=400000):
  Calls Tryz.prog 39 #[.pointer (some ⟨pb,0,none⟩),.string line] w (Er B sa w0 kb c txt (Dg txt M line) o w):=by
 obtain⟨ws,r,hpc,-⟩:=Td line
 cases hi:Cp ws with
 |none=>exact Aac line h hls hpc hi
 |some i=>exact Aab line h hO hN hp ho htx hls hT hpc hi
end
end
end Go.Proofs.YtikehilbmldadaaGreatDoor
