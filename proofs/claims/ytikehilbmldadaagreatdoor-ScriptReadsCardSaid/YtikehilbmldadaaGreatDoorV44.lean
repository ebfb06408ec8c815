import Derived.Test.YtikehilbmldadaaGreatDoorV35
import Derived.Test.YtikehilbmldadaaGreatDoorV43
set_option maxHeartbeats 8000000
set_option maxRecDepth 100000
set_option linter.unusedVariables false
open Go.Proofs.Tryz Go.Proofs.YtikehilbmldadaaGreatDoor.Tryz
namespace Go.Proofs.YtikehilbmldadaaGreatDoor
section
open Go.RowKit
theorem Tryz.methodError(v:Value)(w:World):(Go.method 514 372 v "Error").run Tryz.prog w=.ok (349,v) w:=by kernel_rfl
theorem qJ(a:Addr)(s:ByteArray)(w:World)(h:w.cell? a=some (.string s)):
  Calls Tryz.prog 349 #[.pointer (some a)] w fun e w'=>e=.returned (.string s)/\w=w':=by
 obtain⟨b,off,sp⟩:=a
 obtain rfl:sp=none:=World.cell?_spot h
 go_enter func349,ntmps349
 go_wp2_with fail
 go_ret
 exact⟨rfl,rfl⟩
structure N8 (B:Nat) (sa:Nat->Addr) (w0:World) (kb c pb:Nat) (txt:ByteArray) (p k:Nat) (cs:List Value) (v:Value) (x:KpX) (M:KpM) (o:Nat->Nat) (wr:World):Prop where
 kp:Bh B sa w0 kb c txt x M o wr
 own:As wr p 9 1 v k cs
 vo:∀b,v.ownBlock=some b->o b=0
 pl:wr.heap[pb]? =some (plC kb c)
 po:o pb=0
 lo:w0.heap.size<=p
 hi:p<=wr.heap.size
 pp:pb<p
section
variable {B:Nat} {sa:Nat->Addr} {w0:World} {kb c pb:Nat} {txt:ByteArray} {p k:Nat} {cs:List Value} {v:Value} {x:KpX} {M:KpM} {o:Nat->Nat} {wr:World}
theorem N8.play{x':KpX}{M':KpM}{o':Nat->Nat}{w':World}(h:N8 B sa w0 kb c pb txt p k cs v x M o wr)(hk:Bh B sa w0 kb c txt x' M' o' w')(hf:Fr o o' wr w'):N8 B sa w0 kb c pb txt p k cs v x' M' o' w':=
 ⟨hk,h.own.keep hf.kp (fun b hb hh=>hh (h.vo b hb)),fun b hb=>by rw[hf.agree b (h.own.lt b hb).2];exact h.vo b hb,hf.kp.get h.pl (fun hh=>hh h.po),by rw[hf.agree pb (Aa h.pl)];exact h.po,h.lo,Nat.le_trans h.hi hf.kp.size,h.pp⟩
theorem N8.below{w':World}(h:N8 B sa w0 kb c pb txt p k cs v x M o wr)(b:Below wr.heap.size wr w'):N8 B sa w0 kb c pb txt p k cs v x M o w':=h.play (h.kp.below b) (Fr.below o b)
theorem N8.app{W w':World}{a2:Option Addr}{k2:Nat}{cs':List Value}(h:N8 B sa w0 kb c pb txt p k cs v x M o wr)(hb:Below wr.heap.size wr W)(ho:As w' p 9 1 (.slice a2 (k+1) k2) (k+1) cs')(hg:W.grownBy w' v.ownBlock)
  (hn:(Value.slice a2 (k+1) k2).ownBlock=v.ownBlock\/∀b,(Value.slice a2 (k+1) k2).ownBlock=some b->W.heap.size<=b):N8 B sa w0 kb c pb txt p (k+1) cs' (.slice a2 (k+1) k2) x M o w':=by
 have hW:=h.below hb
 have kg:Ae (fun b=>some b=v.ownBlock) W w':=Ae.of_grown hg
 have hl:=fun b (hh:some b=v.ownBlock)=>(hW.own.lt b hh.symm)
 refine⟨hW.kp.far kg (fun b hbl hh=>⟨hW.vo b hh.symm,Nat.le_trans hW.lo (hl b hh).1⟩),ho,fun b hb=>?_,kg.get hW.pl (fun hh=>by have:=(hl pb hh).1;have:=hW.pp;omega),hW.po,hW.lo,Nat.le_trans hW.hi kg.size,hW.pp⟩
 rcases hn with hn|hn
 ·rw[hn]at hb;exact hW.vo b hb
 ·have h2:=hn b hb
  cases hz:o b with
  |zero=>rfl
  |succ z=>have:=(hW.kp.b.low b (by rw[hz];exact Nat.succ_ne_zero z)).2;omega
end
structure Yq (B:Nat) (sa:Nat->Addr) (w0:World) (kb c pb:Nat) (txt:ByteArray) (p:Nat) (M0:KpM) (lines:List ByteArray) (k:Nat) (v:Value) (wr:World):Prop where
 st:∃x o,N8 B sa w0 kb c pb txt p k (Ad (Dw txt M0 (lines.take k)).1) v x (Dw txt M0 (lines.take k)).2 o wr
 ok:B8 (Dw txt M0 (lines.take k)).2 (2*Ip (lines.take k))
theorem kI(lines:List ByteArray)(k:Nat):Ip (lines.take k)<=Ip lines:=by
 have e:(lines.map Qs).sum=((lines.take k).map Qs).sum+((lines.drop k).map Qs).sum:=by rw[<-List.sum_append,<-List.map_append,List.take_append_drop]
 unfold Ip
 omega
theorem Un{txt:ByteArray}{M0:KpM}{lines:List ByteArray}{k:Nat}(hk:k<lines.length):
  Dw txt M0 (lines.take (k+1))=((Dw txt M0 (lines.take k)).1++ [(Da txt (Dw txt M0 (lines.take k)).2 lines[k]).1],(Da txt (Dw txt M0 (lines.take k)).2 lines[k]).2)/\Ip (lines.take (k+1))=Ip (lines.take k)+Qs lines[k]:=by
 rw[List.take_succ_eq_append_getElem hk]
 exact⟨Um txt _ _ _,sB _ _⟩
theorem Yq.next{B:Nat}{sa:Nat->Addr}{w0:World}{kb c pb:Nat}{txt:ByteArray}{p:Nat}{M0:KpM}{lines:List ByteArray}{k:Nat}{w':World}{a2:Option Addr}{k2:Nat}{x:KpX}{o:Nat->Nat}{S:ByteArray}(hk:k<lines.length)
  (ok:B8 (Dw txt M0 (lines.take k)).2 (2*Ip (lines.take k))) (ht:2*Ip lines<=400000) (hS:S=(Da txt (Dw txt M0 (lines.take k)).2 lines[k]).1)
  (h:N8 B sa w0 kb c pb txt p (k+1) (Ad (Dw txt M0 (lines.take k)).1++ [.string S]) (.slice a2 (k+1) k2) x (Da txt (Dw txt M0 (lines.take k)).2 lines[k]).2 o w'):
  Yq B sa w0 kb c pb txt p M0 lines (k+1) (.slice a2 (k+1) k2) w':=by
 obtain⟨e1,e2⟩:=Un (txt:=txt) (M0:=M0) hk
 have hle:=kI lines (k+1)
 refine⟨⟨x,o,?_⟩,?_⟩
 ·rw[e1,Qd,<-hS];exact h
 ·rw[e1,e2,Nat.mul_add]
  exact yY ok (by omega)
end
section
open Go.RowKit
theorem Uo(B:Nat)(sa:Nat->Addr)(config:ByteArray)(lines:List ByteArray)(v:Value)(R:Nat->Prop)(w:World)(hS:Dp B sa w)(hE:∀k,k<11->w.cell? (sa k)=some (.string (Ib (k+1))))(hN:Ra B w)(hT:J4 w.heap.size w)(hl:Ay R w v 1 (Ad lines) lines.length)(hR:∀b,R b->b<w.heap.size)
  (hcs:config.size<=4000) (hls:∀s∈lines,s.size<=100000) (htk:2*Ip lines<=400000) (h100:lines.length<=100) {C:Al} (hr:Cg config=(C,(0,-1))):
  Calls Tryz.prog 8 #[.string config,v] w fun e w'=>∃ao cap,e=.returned (.tuple #[.slice ao lines.length cap,.nilIface])/\As w' w.heap.size 9 1 (.slice ao lines.length cap) lines.length (Ad (Dw (Jp C) (kp0 C) lines).1)/\Below w.heap.size w w':=by
 obtain⟨i0,hi0,hz0,hz1,hz2⟩:=info_parts infoStr
 obtain⟨C',hr',hC,hcut⟩:=Uv (s:=config) (by rw[hr])
 rw[hr]at hr'
 obtain rfl:C=C':=(Prod.mk.inj hr').1
 have hbk:=Aeq config
 have hsz:config.data.toList.length=config.size:=by rw[Array.length_toList];rfl
 have h8:(Df C).length<=8000:=by
  rw[hcut]
  rcases hbk with h|h
  ·rw[h];omega
  ·rw[h,List.length_append];simp;omega
 obtain⟨sao,scap,rfl⟩:=hl.val
 have HRd:=Aia (Uu B sa config w hS.c hN (by omega) (fun k hk h=>by have:=Ok hk h;omega))
 rw[hr]at HRd
 unfold Mv at HRd
 have HKn:=Aia (fun(W:World) (hW:Below w.heap.size w W) R' v X (hX:Ez R' W C v X) (hR':∀b,R' b->b<W.heap.size) c rb cap (hm:A1 W c rb (some ⟨rb,0,none⟩) cap blank) (hc:w.heap.size<=c/\w.heap.size<=rb)=>Aav B sa R' C v X w W c rb cap blank (hS.k.below hW) (hN.below hW hS.top) (fun W' hW'=>hT W' (hW.trans (hW'.mono hW.size))) hX hR' hC h8 hW hS.top hm hc (by rw[Ym];decide) rfl)
 have htx:(Jp C).size<=100000:=by unfold Jp;rw[kH];omega
 have HK0:=Aia (Ag9 hC)
 have HPl:=Aia (fun(k:Nat) (hk:k<lines.length) wr (x:KpX) (M:KpM) (o:Nat->Nat) kb c pb (h:Bh B sa w kb c (Jp C) x M o wr) (hO:B8 M (2*Ip (lines.take k))) (hp:wr.heap[pb]? =some (plC kb c)) (ho:o pb=0)=>
  (show(Dg (Jp C) M lines[k]).1<=11/\Calls Tryz.prog 39 #[.pointer (some ⟨pb,0,none⟩),.string lines[k]] wr (Er B sa w kb c (Jp C) (Dg (Jp C) M lines[k]) o wr)from by
   have h1:=kI lines (k+1)
   have h2:=(Un (txt:=Jp C) (M0:=M) hk).2
   exact⟨yW hO (by omega),Adg lines[k] h hO (hN.below h.b.bel hS.top) hp ho htx (hls _ (List.getElem_mem hk)) (by omega)⟩))
 have HS:=Aia hS
 have HE:=Aia hE
 have HTK:=Aia htk
 obtain⟨M0,hM0⟩:∃M0,M0=kp0 C:=⟨_,rfl⟩
 obtain⟨txt,htxt⟩:∃txt,txt=Jp C:=⟨_,rfl⟩
 have HKn2:Hid (∀(W:World) (hW:Below w.heap.size w W) R' v X (hX:Ez R' W C v X) (hR':∀b,R' b->b<W.heap.size) c rb cap (hm:A1 W c rb (some ⟨rb,0,none⟩) cap blank) (hc:w.heap.size<=c/\w.heap.size<=rb),Calls Tryz.prog 38 #[.agg (A4 C v),.pointer (some ⟨c,0,none⟩)] W fun e w'=>∃kb x o,e=.returned (.tuple #[.pointer (some ⟨kb,0,none⟩),.nilIface])/\Bh B sa w kb c txt x M0 o w'):=(show ∀(W:World) (hW:Below w.heap.size w W) R' v X (hX:Ez R' W C v X) (hR':∀b,R' b->b<W.heap.size) c rb cap (hm:A1 W c rb (some ⟨rb,0,none⟩) cap blank) (hc:w.heap.size<=c/\w.heap.size<=rb),Calls Tryz.prog 38 #[.agg (A4 C v),.pointer (some ⟨c,0,none⟩)] W fun e w'=>∃kb x o,e=.returned (.tuple #[.pointer (some ⟨kb,0,none⟩),.nilIface])/\Bh B sa w kb c txt x M0 o w' from
  fun W hW R' v X hX hR' c rb cap hm hc=>(HKn.out W hW R' v X hX hR' c rb cap hm hc).mono (fun e w' hh=>by
   obtain⟨kb,x,o,h1,h2,_,_⟩:=hh
   rw[hM0,htxt]
   exact⟨kb,x,o,h1,h2⟩))
 rw[<-htxt]at HPl
 rw[<-hM0]at HK0
 rw[<-hM0,<-htxt]
 obtain⟨n,hn⟩:∃n,n=lines.length:=⟨_,rfl⟩
 have HN:=Aia hn
 have HL:Hid (∀k (hk:k<lines.length),∃lb lo,sao=some ⟨lb,lo,none⟩/\lb<w.heap.size/\w.cell? ⟨lb,lo+k,none⟩=some (.string lines[k])):=Aia (fun k hk=>by
  obtain⟨lb,lo,e1,_,e2,e3⟩:=Eh hl (by omega)
  exact⟨lb,lo,e1,e2,e3 k hk⟩)
 have h100I:(n:Int)<=100:=by omega
 rw[<-hn]
 clear hS hE hN hT hl hR hcs hls htk h100 hr hr' hC hcut hbk hsz h8 HKn htx hM0 htxt hn
 go_enter func8,ntmps8
 go_wp2_with fail
 refine HRd.out.mono ?_
 rintro e w1 ⟨a9,n9,k9,u,X9,rfl,hu,hcs,-,b1⟩
 have hu0:u=.nilIface:=by
  rcases hu with⟨_,hu⟩|⟨_,hc0,_⟩
  ·rw[hu];rfl
  ·exact absurd hc0 (Nat.lt_irrefl 0)
 subst hu0
 have HCS:=Aia (hcs trivial)
 have hxb:=Ab w1 (.cells (A4 C (.slice a9 n9 k9)) 30)
 have hbb:Below w1.heap.size w1 (w1.alloc (.cells (A4 C (.slice a9 n9 k9)) 30)):=(Below.refl _ _).alloc (Nat.le_refl _) _
 have HB1:=Aia b1
 clear hu hcs b1 HRd
 unfold A4 at hxb hbb HKn2 ⊢
 go_upto_region 4 with fail
 generalize w1.alloc _=w2 at hxb hbb ⊢
 have hxb2:w2.heap[w1.heap.size]? =some (.cells (A4 C (.slice a9 n9 k9)) 30):=hxb
 obtain⟨cb,hcb⟩:∃cb,cb=w1.heap.size:=⟨_,rfl⟩
 rw[<-hcb]at hxb2 ⊢
 have HX2:=Aia hxb2
 have HCS2:=Aia (HCS.out.below hbb (fun b hb=>hb.2))
 have HB2:=Aia (HB1.out.trans (hbb.mono HB1.out.size))
 have HR2:=Aia (show ∀b,w.heap.size<=b/\b<w1.heap.size->b<w2.heap.size from fun b hb=>Nat.lt_of_lt_of_le hb.2 hbb.size)
 have HCn:=Aia (Wa w2)
 clear hxb hbb hxb2 hcb HCS HB1
 go_wp2_with fail
 refine HCn.out.mono ?_
 rintro e w3 ⟨c,rb,cap,rfl,hm,hc,b3⟩
 have hx3:=Af b3 HX2.out (Aa HX2.out)
 obtain⟨d0,d1,d2,d3,d4⟩:=Br hx3
 have HB3:=Aia (HB2.out.trans (b3.mono HB2.out.size))
 have HKw:=Aia (HKn2.out w3 HB3.out _ _ X9 (HCS2.out.below b3 HR2.out) (fun b hb=>Nat.lt_of_lt_of_le (HR2.out b hb) b3.size) c rb cap hm (by have:=HB2.out.size;omega))
 clear hm hc b3 hx3 HX2 HCS2 HR2 HCn HKn2 HB2
 go_wp2_with fail
 refine HKw.out.mono ?_
 rintro e w4 ⟨kb,x,o,rfl,z⟩
 have HZ:=Aia z
 have hpl:=Ab w4 (plC kb c)
 have hpb:Below w4.heap.size w4 (w4.alloc (plC kb c)):=(Below.refl _ _).alloc (Nat.le_refl _) _
 unfold plC at hpl hpb
 clear z d0 d1 d2 d3 d4 HKw
 go_upto_region 13 with fail
 obtain⟨w5,hw5⟩:∃w5,w5=w4.alloc (.cells #[.pointer (some ⟨kb,0,none⟩),.pointer (some ⟨c,0,none⟩)] 98):=⟨_,rfl⟩
 rw[<-hw5]at hpl hpb ⊢
 clear hw5
 obtain⟨pb,hpbq⟩:∃pb,pb=w4.heap.size:=⟨_,rfl⟩
 rw[<-hpbq]at hpl ⊢
 have HST0:Hid (Yq B sa w kb c pb txt w5.heap.size M0 lines 0 (.slice none 0 0) w5):=(show Yq B sa w kb c pb txt w5.heap.size M0 lines 0 (.slice none 0 0) w5 from
  ⟨⟨x,o,HZ.out.below hpb,⟨rfl,.inl ⟨rfl,rfl⟩⟩,(fun b hb=>by cases hb),hpl,by
   cases hz:o pb with
   |zero=>rfl
   |succ z=>have:=(HZ.out.b.low pb (by rw[hz];exact Nat.succ_ne_zero z)).2;omega,
   Nat.le_trans HZ.out.b.bel.size hpb.size,Nat.le_refl _,Aa hpl⟩,by
   show B8 M0 (2*Ip [])
   exact HK0.out⟩)
 have hpw:w.heap.size<=w5.heap.size:=Nat.le_trans HZ.out.b.bel.size hpb.size
 have HPW:=Aia hpw
 clear hpl hpb hpbq HZ hpw
 generalize hp5:w5.heap.size=p at HST0 HPW
 clear hp5
 go_wp2_with fail
 go_loopw [11,50] (fun s11 s50 wr=>∃(k:Nat) (a1:Option Addr) (j1:Nat),k<=n/\s11=.slice a1 k j1/\s50=.int .i64 k/\Hid (Yq B sa w kb c pb txt p M0 lines k (.slice a1 k j1) wr)) (fun _ s50 _=>n-(intOf s50).toNat)
 case atStart=>exact⟨0,none,0,Nat.zero_le _,rfl,rfl,HST0⟩
 case round=>
  obtain⟨k,a1,j1,hk,rfl,rfl,hst⟩:=hrel
  clear HST0
  by_cases hlt:k<n
  ·have hkl:k<lines.length:=by have:=HN.out;omega
   have hltI:(k:Int)<(n:Int):=by omega
   obtain⟨lb,lo,rfl,hlb,hcell⟩:=HL.out k hkl
   obtain⟨⟨x,o,hC⟩,hO⟩:=hst.out
   have hcr:wr.cell? ⟨lb,lo+k,none⟩=some (.string lines[k]):=by rw[hC.kp.b.bel.cell (p:=⟨lb,lo+k,none⟩) hlb];exact hcell
   obtain⟨hle,hpl⟩:=HPl.out k hkl wr x _ o kb c pb hC.kp hO hC.pl hC.po
   have HC:=Aia hC
   have HO:=Aia hO
   obtain⟨ln,hln⟩:∃ln,ln=lines[k]:=⟨_,rfl⟩
   have HLN:=Aia hln
   rw[<-hln]at hcr hle hpl
   have HNx:=Aia (fun(wz W w':World) x' o' (hc:N8 B sa w kb c pb txt p k (Ad (Dw txt M0 (lines.take k)).1) (.slice a1 k j1) x' (Da txt (Dw txt M0 (lines.take k)).2 lines[k]).2 o' wz) (hb:Below wz.heap.size wz W) a2 k2 S (hS:S=(Da txt (Dw txt M0 (lines.take k)).2 lines[k]).1) ho hg hn=>Yq.next (S:=S) hkl HO.out HTK.out hS (hc.app (W:=W) (w':=w') (a2:=a2) (k2:=k2) hb ho hg hn))
   rw[<-hln]at HNx
   obtain⟨M,hM⟩:∃M,M=(Dw txt M0 (lines.take k)).2:=⟨_,rfl⟩
   rw[<-hM]at hle hpl HNx
   have HC':Hid (N8 B sa w kb c pb txt p k (Ad (Dw txt M0 (lines.take k)).1) (.slice a1 k j1) x M o wr):=(show _ from by rw[hM];exact HC.out)
   obtain⟨cs,hcs⟩:∃cs,cs=Ad (Dw txt M0 (lines.take k)).1:=⟨_,rfl⟩
   rw[<-hcs]at HNx HC'
   unfold Er at hpl
   have HLine:=Aia (show Da txt M ln=(if (Dg txt M ln).1=0 then (Dg txt M ln).2.1 else Ib (Dg txt M ln).1,(Dg txt M ln).2.2)from rfl)
   obtain⟨r,hr⟩:∃r,r=Dg txt M ln:=⟨_,rfl⟩
   rw[<-hr]at hle hpl HLine
   obtain⟨re,rs,rM⟩:=r
   have HPL:=Aia hpl
   have HLE:Hid (re<=11):=hle
   have h63:Hid (k+1<=maxLen):=Aia (by unfold maxLen;omega)
   have hby:Hid ((k+1)*16<=140737488355328):=Aia (by omega)
   clear hst hC hO hle hpl hln hM hcs hr HC hcell
   have HLay:=Aia (fun(wz:World) x' o' M' (h:N8 B sa w kb c pb txt p k cs (.slice a1 k j1) x' M' o' wz) (y:Obj)=>And.intro (h.own.later ((Below.refl _ _).alloc (Nat.le_refl _) y)) (show p<=(wz.alloc y).heap.size by rw[World.size_alloc];have:=h.hi;omega))
   have hme:=methodError
   go_wp2_with fail
   refine HPL.out.mono ?_
   rintro e w6 ⟨rfl,x',o',z1,z2⟩
   have hc6:=HC'.out.play z1 z2
   clear z1 z2 HPL HC'
   cases re with
   |zero=>
    have HL1:=Aia (show rs=(Da txt M ln).1 from by rw[HLine.out];rfl)
    have HC6:Hid (N8 B sa w kb c pb txt p k cs (.slice a1 k j1) x' (Da txt M ln).2 o' w6):=Aia (by rw[HLine.out];exact hc6)
    clear hc6
    rw[Ds]
    go_wp2_with (at_builtin;go_must (refine A5 rfl (.tmp 65) (.tmp 67) 22 rfl p 9 i0 _ 1 16 underlying22 hi0 hz0 hz1 hz2 rfl (by decide) _ k _ rfl (HLay.out _ _ _ _ HC6.out _).1 ⟨World.heap w6 |>.size,0,none⟩ 1 1 [.string rs] rfl rfl (Av _ [.string rs] _) (by intro u hu;simp at hu;subst hu;rfl) h63.out hby.out (HLay.out _ _ _ _ HC6.out _).2 ?_;intro a2 k2 w4 ho hg hn;have nx:=Aia (HNx.out w6 _ w4 _ _ HC6.out ((Below.refl _ _).alloc (Nat.le_refl _) _) a2 k2 rs HL1.out ho hg hn);clear ho hg hn))
    go_roundw
    case rel=>exact⟨k+1,a2,k2,hlt,rfl,by go_num,nx⟩
    case measure=>simp[intOf];omega
   |succ q=>
    have HL1:=Aia (show Ib (q+1)=(Da txt M ln).1 from by rw[HLine.out];rfl)
    have HC6:Hid (N8 B sa w kb c pb txt p k cs (.slice a1 k j1) x' (Da txt M ln).2 o' w6):=Aia (by rw[HLine.out];exact hc6)
    have HBa:=Aia (Afb B sa q w6 (HS.out.low hc6.kp.b.bel HS.out.top))
    have hq:q<11:=by have:=HLE.out;omega
    have HET:=Aia (fun(w7:World) (b7:Below w6.heap.size w6 w7)=>qJ (sa q) (Ib (q+1)) w7 (by
     have h1:=HE.out q hq
     have b07:=hc6.kp.b.bel.trans (b7.mono hc6.kp.b.bel.size)
     rw[b07.cell (World.block_lt_of_cell? w (sa q) h1)]
     exact h1))
    obtain⟨S,hS⟩:∃S,S=Ib (q+1):=⟨_,rfl⟩
    rw[<-hS]at HL1 HET
    rw[D4]at HBa ⊢
    clear hc6 hS hq
    go_wp2_with fail
    refine HBa.out.mono ?_
    rintro e w7 ⟨rfl,b7⟩
    have HET7:=Aia (HET.out w7 b7)
    have HC7:=Aia (HC6.out.below b7)
    clear b7 HBa HET HC6
    go_wp2_with fail
    refine HET7.out.mono ?_
    rintro e w8 ⟨rfl,rfl⟩
    go_wp2_with (at_builtin;go_must (refine A5 rfl (.tmp 65) (.tmp 67) 22 rfl p 9 i0 _ 1 16 underlying22 hi0 hz0 hz1 hz2 rfl (by decide) _ k _ rfl (HLay.out _ _ _ _ HC7.out _).1 ⟨World.heap w7 |>.size,0,none⟩ 1 1 [.string S] rfl rfl (Av _ [.string S] _) (by intro u hu;simp at hu;subst hu;rfl) h63.out hby.out (HLay.out _ _ _ _ HC7.out _).2 ?_;intro a2 k2 w4 ho hg hn;have nx:=Aia (HNx.out w7 _ w4 _ _ HC7.out ((Below.refl _ _).alloc (Nat.le_refl _) _) a2 k2 S HL1.out ho hg hn);clear ho hg hn))
    go_roundw
    case rel=>exact⟨k+1,a2,k2,hlt,rfl,by go_num,nx⟩
    case measure=>simp[intOf];omega
  ·obtain rfl:k=n:=by omega
   obtain⟨⟨x,o,hC⟩,hO⟩:=hst.out
   have hltI:¬(k:Int)<(k:Int):=by omega
   have ho:=hC.own
   have hkk:=HN.out
   rw[show lines.take k=lines from List.take_of_length_le (by omega)]at ho
   have HB:=Aia hC.kp.b.bel
   have hoo:As wr w.heap.size 9 1 (.slice a1 k j1) k (Ad (Dw txt M0 lines).1):=by
    refine⟨ho.1,?_⟩
    rcases ho.2 with h|⟨g,off,cp,cur,h1,h2,h3,h4⟩
    ·exact .inl h
    ·exact .inr ⟨g,off,cp,cur,h1,Nat.le_trans HPW.out h2,h3,h4⟩
   have HO:=Aia hoo
   clear hst hC hO ho hkk hoo
   go_wp2_with fail
   go_ret2
   exact⟨a1,j1,rfl,HO.out,HB.out⟩
end
section
open Go.RowKit
theorem sD(B:Nat)(sa:Nat->Addr)(config:ByteArray)(n:Nat)(ao:Option Addr)(cap:Nat)(w:World)(hS:Dp B sa w)(h100:100<n):
  Calls Tryz.prog 8 #[.string config,.slice ao n cap] w fun e w'=>e=.returned (.tuple #[.slice none 0 0,errv sa 2])/\Below w.heap.size w w':=by
 obtain⟨s0,s1,_⟩:=hS.k.all
 have h1:(100:Int)<(n:Int):=by omega
 clear hS h100
 go_enter func8,ntmps8
 go_wp2_with fail
 go_quiet (fail)
 go_wp2_with fail
 go_ret2
 exact⟨rfl,Ag _ (Below.refl _ _)⟩
theorem yV(B:Nat)(sa:Nat->Addr)(config:ByteArray)(n:Nat)(ao:Option Addr)(cap:Nat)(w:World)(hS:Dp B sa w)(hN:Ra B w)(hcs:config.size<=4000)(h100:n<=100){f:Nat × Int}{C:Al}(hr:Cg config=(C,f))(hf:f.1≠0):
  Calls Tryz.prog 8 #[.string config,.slice ao n cap] w fun e w'=>∃u,e=.returned (.tuple #[.slice none 0 0,u])/\I7 sa w' u f/\Below w.heap.size w w':=by
 have HRd:=Aia (Uu B sa config w hS.c hN (by omega) (fun k hk h=>by have:=Ok hk h;omega))
 rw[hr]at HRd
 unfold Mv at HRd
 have h1:(n:Int)<=100:=by omega
 have HF:=Aia hf
 clear hS hN hcs h100 hr hf
 go_enter func8,ntmps8
 go_wp2_with fail
 refine HRd.out.mono ?_
 rintro e w1 ⟨a9,n9,k9,u,X9,rfl,hu,-,-,b1⟩
 have hbb:Below w1.heap.size w1 (w1.alloc (.cells (A4 C (.slice a9 n9 k9)) 30)):=(Below.refl _ _).alloc (Nat.le_refl _) _
 have HU:=Aia (hu.below hbb)
 have HB:=Aia (b1.trans (hbb.mono b1.size))
 obtain⟨t,p,rfl⟩:∃t p,u=.iface t p:=by
  rcases hu with⟨_,h⟩|⟨_,_,fb,h,_⟩
  ·obtain⟨q,hq⟩:∃q,f.1=q+1:=⟨f.1-1,by have:=HF.out;omega⟩
   rw[h,hq,D4]
   exact⟨_,_,rfl⟩
  ·exact⟨_,_,h⟩
 clear hu hbb b1 HRd
 unfold A4 at HU HB ⊢
 go_upto_region 4 with fail
 generalize w1.alloc _=w2 at HU HB ⊢
 go_wp2_with fail
 go_ret2
 exact⟨_,rfl,HU.out,HB.out⟩
end
section
open Go.RowKit
theorem Abc(B:Nat)(sa:Nat->Addr)(w:World)(hS:Dp B sa w)(hE:∀k,k<11->w.cell? (sa k)=some (.string (Ib (k+1))))(hN:Ra B w)(hT:J4 w.heap.size w):
  Calls Tryz.prog 7 #[] w fun e w'=>e=.returned (.bool true)/\Below w.heap.size w w':=by
 have hba:Below w.heap.size w (w.alloc (.cells (Ad [hl1,hl2,hl3,hl4]).toArray 9)):=(Below.refl _ _).alloc (Nat.le_refl _) _
 have hsl:Ay (· =w.heap.size) (w.alloc (.cells (Ad [hl1,hl2,hl3,hl4]).toArray 9)) (.slice (some ⟨w.heap.size,0,none⟩) 4 4) 1 (Ad [hl1,hl2,hl3,hl4]) 4:=Qp w (Ad [hl1,hl2,hl3,hl4]) 9 1 4 rfl (by decide)
 have HRun:=Aia (Uo B sa hcfg [hl1,hl2,hl3,hl4] _ _ _ (hS.below hba) (fun k hk=>by
  have h:=hE k hk
  rw[hba.cell (World.block_lt_of_cell? w (sa k) h)];exact h) (hN.below hba hS.top) (fun W hW=>hT W (hba.trans (hW.mono hba.size))) hsl (fun b hb=>by rw[hb];simp) (by decide) (by decide) (by rw[Aba];decide) (by decide) vQ)
 rw[Abb]at HRun
 have HRun2:Hid (Calls Tryz.prog 8 #[.string hcfg,.slice (some ⟨w.heap.size,0,none⟩) 4 4] (w.alloc (.cells (Ad [hl1,hl2,hl3,hl4]).toArray 9)) fun e w'=>∃ao cap,e=.returned (.tuple #[.slice ao 4 cap,.nilIface])/\(∀o,Ay (fun b=>w.heap.size<=b) (w'.alloc o) (.slice ao 4 cap) 1 (Ad [okS,⟨#[49]⟩,Em,J1]) 4)/\Below w.heap.size w w'):=HRun.out.mono (fun e w' hh=>by
  obtain⟨ao,cap,he,ho,b1⟩:=hh
  refine⟨ao,cap,he,fun o=>?_,hba.trans (b1.mono hba.size)⟩
  have h2:As (w'.alloc o) _ 9 1 (.slice ao 4 cap) 4 (Ad [okS,⟨#[49]⟩,Em,J1]):=ho.later ((Below.refl _ _).alloc (Nat.le_refl _) o)
  exact h2.slOf.mono (fun b hb=>by have h1:=hb.1;simp at h1;omega))
 have HSm:=Aia (fun(w1:World) ao cap (h:Ay (fun b=>w.heap.size<=b) (w1.alloc (.cells (Ad [okS,⟨#[49]⟩,Em,J1]).toArray 9)) (.slice ao 4 cap) 1 (Ad [okS,⟨#[49]⟩,Em,J1]) 4)=>Y5 _ _ [okS,⟨#[49]⟩,Em,J1] (.slice ao 4 cap) (.slice (some ⟨w1.heap.size,0,none⟩) 4 4) (w1.alloc (.cells (Ad [okS,⟨#[49]⟩,Em,J1]).toArray 9)) h (Qp w1 (Ad [okS,⟨#[49]⟩,Em,J1]) 9 1 4 rfl (by decide)) (by decide))
 clear hS hE hN hT hsl hba HRun
 go_enter func7,ntmps7
 go_wp2_with fail
 refine HRun2.out.mono ?_
 rintro e w1 ⟨ao,cap,rfl,hs,b1⟩
 have HSm1:=Aia (HSm.out w1 ao cap (hs _))
 have HB:=Aia (b1.alloc b1.size (.cells (Ad [okS,⟨#[49]⟩,Em,J1]).toArray 9))
 clear hs b1 HSm HRun2
 go_wp2_with fail
 refine HSm1.out.mono ?_
 rintro e w2 ⟨rfl,q,rfl⟩
 go_wp2_with fail
 go_ret
 exact⟨rfl,Ag _ HB.out⟩
end
end Go.Proofs.YtikehilbmldadaaGreatDoor
