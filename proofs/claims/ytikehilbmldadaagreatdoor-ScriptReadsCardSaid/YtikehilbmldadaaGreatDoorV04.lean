import Derived.Test.YtikehilbmldadaaGreatDoorV03
import Derived.Test.YtikehilbmldadaaGreatDoorV01
import Derived.Deep.OwnRows
import Derived.Laws.IdiomStrings
import Derived.IntWalk
import Derived.Laws.BitsAllLaws
set_option maxHeartbeats 4000000
set_option maxRecDepth 100000
set_option linter.unusedVariables false
open Go.Proofs.Tryz Go.Proofs.YtikehilbmldadaaGreatDoor.Tryz
namespace Go.Proofs.YtikehilbmldadaaGreatDoor
open Go.RowKit
def errv(sa:Nat->Addr):Nat->Value
 |0=>.nilIface
 |k+1=>.iface 372 (.pointer (some (sa k)))
def sg(k:Nat):Nat:=[1,0,2,3,4,5,6,7,8,9,10].getD k 0
structure Dp (B:Nat) (sa:Nat->Addr) (w:World):Prop where
 gl:∀k,k<11->w.cell? ⟨sg k,0,none⟩=some (errv sa (k+1))
 nd:∀i j,i<11->j<11->i≠j->sa i≠sa j
 bl:∀k,k<11->(sa k).block<B/\∃c t,w.heap[(sa k).block]? =some (.cells c t (0,0))
 et:w.cell? ⟨11,0,none⟩=some (.iface 283 (.agg #[.pointer (some ⟨25,25,none⟩)]))
 nb:(∀k,k<11->sg k<B)/\11<B
 top:B<=w.heap.size
theorem Dp.mk'{sa:Nat->Addr}{w:World}(gl:∀k,k<11->w.cell? ⟨sg k,0,none⟩=some (errv sa (k+1)))(nd:∀i j,i<11->j<11->i≠j->sa i≠sa j)
  (bl:∀k,k<11->(sa k).block<w.heap.size/\∃c t,w.heap[(sa k).block]? =some (.cells c t (0,0))) (et:w.cell? ⟨11,0,none⟩=some (.iface 283 (.agg #[.pointer (some ⟨25,25,none⟩)]))):Dp w.heap.size sa w:=
 ⟨gl,nd,bl,et,⟨fun k hk=>World.block_lt_of_cell? _ ⟨sg k,0,none⟩ (gl k hk),World.block_lt_of_cell? _ ⟨11,0,none⟩ et⟩,Nat.le_refl _⟩
theorem Dp.keep{B:Nat}{sa:Nat->Addr}{S:Nat->Prop}{w w':World}(h:Dp B sa w)(k:Ae S w w')(hS:∀b,S b->B<=b):Dp B sa w':=by
 have hn:=h.nb
 have ht:=h.top
 refine⟨fun i hi=>?_,h.nd,fun i hi=>?_,?_,hn,Nat.le_trans ht k.size⟩
 ·have:=hn.1 i hi
  rw[k.cell (p:=⟨sg i,0,none⟩) (show sg i<w.heap.size by omega) (fun hb=>by have:=hS _ hb;simp only at this;omega)]
  exact h.gl i hi
 ·obtain⟨h1,c,t,h2⟩:=h.bl i hi
  exact⟨h1,c,t,k.get h2 (fun hb=>by have:=hS _ hb;omega)⟩
 ·have hn2:=hn.2
  rw[k.cell (p:=⟨11,0,none⟩) (show 11<w.heap.size by omega) (fun hb=>by have:=hS _ hb;simp only at this;omega)]
  exact h.et
theorem Dp.below{B:Nat}{sa:Nat->Addr}{w w':World}(h:Dp B sa w)(b:Below w.heap.size w w'):Dp B sa w':=h.keep (Ak b) (fun _ h=>h.elim)
theorem Dp.low{B C:Nat}{sa:Nat->Addr}{w w':World}(h:Dp B sa w)(b:Below C w w')(hC:B<=C):Dp B sa w':=h.keep (Ae.of_below b) (fun k hk=>Nat.le_trans hC hk)
theorem Dp.all{B:Nat}{sa:Nat->Addr}{w:World}(h:Dp B sa w):
  w.cell? ⟨1,0,none⟩=some (.iface 372 (.pointer (some (sa 0))))/\w.cell? ⟨0,0,none⟩=some (.iface 372 (.pointer (some (sa 1))))/\w.cell? ⟨2,0,none⟩=some (.iface 372 (.pointer (some (sa 2))))/\
  w.cell? ⟨3,0,none⟩=some (.iface 372 (.pointer (some (sa 3))))/\w.cell? ⟨4,0,none⟩=some (.iface 372 (.pointer (some (sa 4))))/\w.cell? ⟨5,0,none⟩=some (.iface 372 (.pointer (some (sa 5))))/\
  w.cell? ⟨6,0,none⟩=some (.iface 372 (.pointer (some (sa 6))))/\w.cell? ⟨7,0,none⟩=some (.iface 372 (.pointer (some (sa 7))))/\w.cell? ⟨8,0,none⟩=some (.iface 372 (.pointer (some (sa 8))))/\
  w.cell? ⟨9,0,none⟩=some (.iface 372 (.pointer (some (sa 9))))/\w.cell? ⟨10,0,none⟩=some (.iface 372 (.pointer (some (sa 10)))):=
 ⟨h.gl 0 (by decide),h.gl 1 (by decide),h.gl 2 (by decide),h.gl 3 (by decide),h.gl 4 (by decide),h.gl 5 (by decide),h.gl 6 (by decide),h.gl 7 (by decide),h.gl 8 (by decide),h.gl 9 (by decide),h.gl 10 (by decide)⟩
structure Ey (B:Nat) (sa:Nat->Addr) (w:World):Prop where
 g1:w.cell? ⟨0,0,none⟩=some (.iface 372 (.pointer (some (sa 1))))
 g2:w.cell? ⟨2,0,none⟩=some (.iface 372 (.pointer (some (sa 2))))
 g6:w.cell? ⟨6,0,none⟩=some (.iface 372 (.pointer (some (sa 6))))
 g7:w.cell? ⟨7,0,none⟩=some (.iface 372 (.pointer (some (sa 7))))
 nb:0<B/\2<B/\6<B/\7<B
 top:B<=w.heap.size
theorem Dp.r{B:Nat}{sa:Nat->Addr}{w:World}(h:Dp B sa w):Ey B sa w:=
 ⟨h.gl 1 (by decide),h.gl 2 (by decide),h.gl 6 (by decide),h.gl 7 (by decide),⟨h.nb.1 1 (by decide),h.nb.1 2 (by decide),h.nb.1 6 (by decide),h.nb.1 7 (by decide)⟩,h.top⟩
instance {B:Nat} {sa:Nat->Addr} {w:World}:Coe (Dp B sa w) (Ey B sa w):=⟨Dp.r⟩
theorem Ey.keep{B:Nat}{sa:Nat->Addr}{S:Nat->Prop}{w w':World}(h:Ey B sa w)(k:Ae S w w')(hS:∀b,S b->B<=b):Ey B sa w':=by
 have ht:=h.top
 obtain⟨n1,n2,n6,n7⟩:=h.nb
 refine⟨?_,?_,?_,?_,h.nb,Nat.le_trans ht k.size⟩
 ·rw[k.cell (p:=⟨0,0,none⟩) (by show 0<_;omega) (fun x=>by have:B<=0:=hS _ x;omega)];exact h.g1
 ·rw[k.cell (p:=⟨2,0,none⟩) (by show 2<_;omega) (fun x=>by have:B<=2:=hS _ x;omega)];exact h.g2
 ·rw[k.cell (p:=⟨6,0,none⟩) (by show 6<_;omega) (fun x=>by have:B<=6:=hS _ x;omega)];exact h.g6
 ·rw[k.cell (p:=⟨7,0,none⟩) (by show 7<_;omega) (fun x=>by have:B<=7:=hS _ x;omega)];exact h.g7
theorem Ey.below{B:Nat}{sa:Nat->Addr}{w w':World}(h:Ey B sa w)(b:Below w.heap.size w w'):Ey B sa w':=h.keep (Ak b) (fun _ h=>h.elim)
def Kt(sa:Nat->Addr):Array Value:=#[.iface 372 (.pointer (some (sa 0))),.iface 372 (.pointer (some (sa 1))),.iface 372 (.pointer (some (sa 2))),.iface 372 (.pointer (some (sa 3))),.iface 372 (.pointer (some (sa 4))),.iface 372 (.pointer (some (sa 5))),.iface 372 (.pointer (some (sa 6))),.iface 372 (.pointer (some (sa 7))),.iface 372 (.pointer (some (sa 8))),.iface 372 (.pointer (some (sa 9))),.iface 372 (.pointer (some (sa 10)))]
theorem Uk{w:World}{b:Nat}{sa:Nat->Addr}{t:TypeId}(h:w.heap[b]? =some (.cells (Kt sa) t))(j:Nat)(hj:j<11):w.cell? ⟨b,j,none⟩=some (.iface 372 (.pointer (some (sa j)))):=by
 unfold Kt at h
 match j,hj with
 |0,_|1,_|2,_|3,_|4,_|5,_|6,_|7,_|8,_|9,_|10,_=>simp[World.cell?,h]
theorem Aeu(w:World):Calls Tryz.prog 43 #[.nilIface] w fun e w'=>e=.returned (.tuple #[.int .i64 0,.int .i64 (-1)])/\w=w':=by
 go_enter func43,ntmps43
 go_wp2
 go_ret2
 exact⟨rfl,rfl⟩
theorem Ab0(B:Nat)(sa:Nat->Addr)(k:Nat)(hk:k<11)(w:World)(hS:Dp B sa w):
  Calls Tryz.prog 43 #[.iface 372 (.pointer (some (sa k)))] w fun e w'=>e=.returned (.tuple #[.int .i64 (k+1),.int .i64 (-1)])/\Below w.heap.size w w':=by
 have HS:=Aia hS
 have et:=hS.et
 have hnb:=hS.nb
 have htop:=hS.top
 clear hS
 go_enter func43,ntmps43
 go_wp2_with fail
 have b0:Below w.heap.size w (w.alloc (.cells #[.pointer none] 154)):=(Below.refl _ _).alloc (Nat.le_refl _) _
 have hS0:=HS.out.below b0
 refine(xX _ _ _ hS0.et).mono ?_
 rintro e w1 ⟨rfl,b1⟩
 have b1':Below w.heap.size w w1:=b0.trans (b1.mono b0.size)
 have hS1:=hS0.below b1
 have H1:=Aia hS1
 have B1:=Aia b1'
 obtain⟨g0,g1,g2,g3,g4,g5,g6,g7,g8,g9,g10⟩:=hS1.all
 clear b0 hS0 b1 b1' hS1 et
 go_wp2_with fail
 have b2:Below w.heap.size w (w1.alloc (.cells (Kt sa) 25)):=B1.out.alloc B1.out.size _
 have hS2:=H1.out.below ((Below.refl _ w1).alloc (Nat.le_refl _) (.cells (Kt sa) 25))
 have hc:=Uk (Ab w1 (.cells (Kt sa) 25))
 unfold Kt at b2 hS2 hc
 generalize w1.alloc _=w2 at b2 hS2 hc ⊢
 have H2:=Aia hS2
 have HC:=Aia hc
 clear hS2 hc g0 g1 g2 g3 g4 g5 g6 g7 g8 g9 g10 H1 B1
 go_loop [3,29] (fun s3 s=>∃j:Nat,j<=k/\s=.int .i64 j/\s3=.int .i64 (-1)) (fun _ s=>11-(intOf s).toNat)
 case atStart=>exact⟨0,Nat.zero_le _,rfl,rfl⟩
 case round=>
  obtain⟨j,hj,rfl,rfl⟩:=hrel
  have q:=HC.out j (by omega)
  by_cases hjk:j=k
  ·subst hjk
   go_wp2_with fail
   refine(Af7 _ _).mono ?_
   rintro e w' ⟨rfl,rfl⟩
   go_wp2_with fail
   go_ret2
   exact⟨rfl,b2⟩
  ·have hlt:j<k:=by omega
   obtain⟨_,ca,ta,ha⟩:=H2.out.bl k hk
   obtain⟨_,cb,tb,hb⟩:=H2.out.bl j (by omega)
   have hne:=H2.out.nd k j hk (by omega) (by omega)
   have HA:=Aia ha
   have HB:=Aia hb
   have HN:=Aia hne
   clear ha hb hne
   go_wp2_with fail
   refine(Ad8 _ _ ca cb ta tb _ HN.out HA.out HB.out).mono ?_
   rintro e w' ⟨rfl,rfl⟩
   go_wp2_with fail
   go_round
   case rel=>exact⟨j+1,by omega,by go_num,rfl⟩
   case measure=>simp[intOf];omega
theorem Aev(B:Nat)(sa:Nat->Addr)(c:Nat)(hc:c<=11)(w:World)(hS:Dp B sa w):
  Calls Tryz.prog 43 #[errv sa c] w fun e w'=>e=.returned (.tuple #[.int .i64 c,.int .i64 (-1)])/\Below w.heap.size w w':=by
 cases c with
 |zero=>
  refine(Aeu w).mono ?_
  rintro e w' ⟨rfl,rfl⟩
  exact⟨rfl,Below.refl _ _⟩
 |succ k=>exact Ab0 B sa k (by omega) w hS
structure CM where
 bs:List UInt8
 off:Bool
 cut:Int
 wr:Int
def Fj(w:World)(rb:Nat)(bs:List UInt8):Prop:=∃C t,w.heap[rb]? =some (.cells C t (0,0))/\bs.length<=C.size/\∀i (hi:i<bs.length),C[i]? =some (.int .u8 (bs[i].toNat:Int))
def Tq(ao:Option Addr)(cap:Nat)(m:CM):Obj:=.cells #[.slice ao m.bs.length cap,.bool m.off,.int .i64 m.cut,.int .i64 m.wr] 158
structure A1 (w:World) (c rb:Nat) (ao:Option Addr) (cap:Nat) (m:CM):Prop where
 box:w.heap[c]? =some (Tq ao cap m)
 ne:rb≠c
 at_:ao=some ⟨rb,0,none⟩\/(m.bs= []/\ao=none)
 row:ao=some ⟨rb,0,none⟩->Fj w rb m.bs
 len:m.bs.length<=4096
 room:m.bs.length<=cap
theorem Fj.cell{w:World}{rb:Nat}{bs:List UInt8}(h:Fj w rb bs)(i:Nat)(hi:i<bs.length):w.cell? ⟨rb,i,none⟩=some (.int .u8 (bs[i].toNat:Int)):=by
 obtain⟨C,t,h1,h2,h3⟩:=h
 simp[World.cell?,h1,h3 i hi]
theorem Fj.free{w:World}{rb:Nat}{bs:List UInt8}(h:Fj w rb bs)(o:Nat):w.frozen? ⟨rb,o,none⟩=false:=by
 obtain⟨C,t,h1,h2,h3⟩:=h
 simp[World.frozen?,h1]
theorem Fj.keep{S:Nat->Prop}{w w':World}{rb:Nat}{bs:List UInt8}(h:Fj w rb bs)(k:Ae S w w')(hS:¬S rb):Fj w' rb bs:=by
 obtain⟨C,t,h1,h2,h3⟩:=h
 exact⟨C,t,k.get h1 hS,h2,h3⟩
theorem Fg{w:World}{c rb:Nat}{ao:Option Addr}{cap:Nat}{m:CM}(h:A1 w c rb ao cap m):
  w.cell? ⟨c,0,none⟩=some (.slice ao m.bs.length cap)/\w.cell? ⟨c,1,none⟩=some (.bool m.off)/\w.cell? ⟨c,2,none⟩=some (.int .i64 m.cut)/\w.cell? ⟨c,3,none⟩=some (.int .i64 m.wr)/\∀o,w.frozen? ⟨c,o,none⟩=false:=by
 have h:=h.box
 unfold Tq at h
 simp[World.cell?,World.frozen?,h]
theorem A1.keep{S:Nat->Prop}{w w':World}{c rb:Nat}{ao:Option Addr}{cap:Nat}{m:CM}(h:A1 w c rb ao cap m)(k:Ae S w w')(hS:∀b,S b->b≠c/\b≠rb):A1 w' c rb ao cap m:=
 ⟨k.get h.box (fun hs=>(hS _ hs).1 rfl),h.ne,h.at_,fun e=>(h.row e).keep k (fun hs=>(hS _ hs).2 rfl),h.len,h.room⟩
theorem A1.set1{w:World}{c rb:Nat}{ao:Option Addr}{cap:Nat}{m:CM}(h:A1 w c rb ao cap m)(x:Bool):A1 (w.setCell ⟨c,1,none⟩ (.bool x)) c rb ao cap { m with off:=x}:=by
 refine⟨?_,h.ne,h.at_,fun e=>(h.row e).keep (Ai w c 1 (.bool x)) h.ne,h.len,h.room⟩
 have h:=h.box
 unfold Tq at h ⊢
 rw[Am _ h];rfl
theorem A1.set2{w:World}{c rb:Nat}{ao:Option Addr}{cap:Nat}{m:CM}(h:A1 w c rb ao cap m)(x:Int):A1 (w.setCell ⟨c,2,none⟩ (.int .i64 x)) c rb ao cap { m with cut:=x}:=by
 refine⟨?_,h.ne,h.at_,fun e=>(h.row e).keep (Ai w c 2 (.int .i64 x)) h.ne,h.len,h.room⟩
 have h:=h.box
 unfold Tq at h ⊢
 rw[Am _ h];rfl
theorem A1.set3{w:World}{c rb:Nat}{ao:Option Addr}{cap:Nat}{m:CM}(h:A1 w c rb ao cap m)(x:Int):A1 (w.setCell ⟨c,3,none⟩ (.int .i64 x)) c rb ao cap { m with wr:=x}:=by
 refine⟨?_,h.ne,h.at_,fun e=>(h.row e).keep (Ai w c 3 (.int .i64 x)) h.ne,h.len,h.room⟩
 have h:=h.box
 unfold Tq at h ⊢
 rw[Am _ h];rfl
theorem Tryz.infoByte:(Tryz.prog.info? 5).map (fun i=>(i.zero,i.size,i.bytes))=some (some (.int .u8 0),1,1):=by kernel_rfl
theorem Fj.made(w:World)(n:Nat)(t:TypeId):Fj (w.alloc (.cells (madeCells #[.int .u8 0] n) t)) w.heap.size (List.replicate n 0):=by
 refine⟨_,t,Ab _ _,by simp[size_madeCells],fun i hi=>?_⟩
 simp at hi
 simp[madeCells,hi,Nat.mod_one]
theorem rC(n:Nat)(w:World)(hn:n<=4096):
  Calls Tryz.prog 37 #[.int .i64 n] w fun e w'=>e=.returned (.tuple #[.pointer (some ⟨w.heap.size+1,0,none⟩),.nilIface])/\A1 w' (w.heap.size+1) w.heap.size (some ⟨w.heap.size,0,none⟩) n ⟨List.replicate n 0,false,-1,0⟩/\Below w.heap.size w w':=by
 have hmk:=run_make_row' (P:=Tryz.prog) 85 5 (.int .u8 0) 1 underlying85 Tryz.infoByte rfl .i64 .i64 n (by omega) (by omega)
 have r1:=Fj.made w n 5
 have b1:Below w.heap.size w (w.alloc (.cells (madeCells #[.int .u8 0] n) 5)):=(Below.refl _ _).alloc (Nat.le_refl _) _
 have hs1:(w.alloc (.cells (madeCells #[.int .u8 0] n) 5)).heap.size=w.heap.size+1:=World.size_alloc _ _
 have HR:=Aia r1
 have HB:=Aia b1
 have HS1:=Aia hs1
 clear r1 b1 hs1
 have h0:¬(n:Int)<0:=by omega
 have h1:¬(4096:Int)<n:=by omega
 go_enter func37,ntmps37
 go_wp2_with fail
 generalize w.alloc _=w1 at HR HB HS1 ⊢
 refine bodyPost_ret (results_tmp2 rfl _ _ _) rfl ?_
 rw[<-HS1.out]
 refine⟨rfl,⟨?_,by have:=HS1.out;omega,.inl rfl,fun _=>HR.out.keep (Ak ((Below.refl _ _).alloc (Nat.le_refl _) _)) (fun h=>h),by simpa using hn,by simp⟩,HB.out.alloc HB.out.size _⟩
 have:=Ab w1 (Tq (some ⟨w.heap.size,0,none⟩) n ⟨List.replicate n 0,false,-1,0⟩)
 rw[<-this]
 simp[Tq]
def Js(off:Bool)(len:Nat)(at_ n:Int):Nat:=if at_<0\/n<0\/(len:Int)<at_\/(len:Int)-at_<n then 2 else if off=true then 8 else 0
theorem Pt{off:Bool}{len:Nat}{at_ n:Int}(h:at_<0\/n<0\/(len:Int)<at_\/(len:Int)-at_<n):Js off len at_ n=2:=if_pos h
theorem Aal{len:Nat}{at_ n:Int}(h:¬(at_<0\/n<0\/(len:Int)<at_\/(len:Int)-at_<n)):Js true len at_ n=8:=by simp[Js,h]
theorem Oj{len:Nat}{at_ n:Int}(h:¬(at_<0\/n<0\/(len:Int)<at_\/(len:Int)-at_<n)):Js false len at_ n=0:=by simp[Js,h]
theorem Rn(B:Nat)(sa:Nat->Addr)(c rb:Nat)(ao:Option Addr)(cap:Nat)(m:CM)(at_ n:Int)(w:World)(h:A1 w c rb ao cap m)(hS:Ey B sa w):
  Calls Tryz.prog 225 #[.pointer (some ⟨c,0,none⟩),.int .i64 at_,.int .i64 n] w fun e w'=>e=.returned (errv sa (Js m.off m.bs.length at_ n))/\w=w':=by
 obtain⟨c0,c1,c2,c3,cf⟩:=Fg h
 obtain⟨g1,g2,g6,g7,_,_⟩:=hS
 have hlen:=h.len
 clear h g2 g6
 by_cases h1:at_<0
 ·rw[Pt (.inl h1)]
  go_enter func225,ntmps225
  go_wp2_with fail
  go_ret
  exact⟨rfl,rfl⟩
 by_cases h2:n<0
 ·rw[Pt (.inr (.inl h2))]
  go_enter func225,ntmps225
  go_wp2_with fail
  go_ret
  exact⟨rfl,rfl⟩
 by_cases h3:(m.bs.length:Int)<at_
 ·rw[Pt (.inr (.inr (.inl h3)))]
  go_enter func225,ntmps225
  go_wp2_with fail
  go_ret
  exact⟨rfl,rfl⟩
 by_cases h4:(m.bs.length:Int)-at_<n
 ·rw[Pt (.inr (.inr (.inr h4)))]
  go_enter func225,ntmps225
  go_wp2_with fail
  go_ret
  exact⟨rfl,rfl⟩
 have hno:¬(at_<0\/n<0\/(m.bs.length:Int)<at_\/(m.bs.length:Int)-at_<n):=by omega
 cases ho:m.off
 ·rw[ho]at c1
  rw[Oj hno]
  clear hno
  go_enter func225,ntmps225
  go_wp2_with fail
  go_ret
  exact⟨rfl,rfl⟩
 ·rw[ho]at c1
  rw[Aal hno]
  clear hno
  go_enter func225,ntmps225
  go_wp2_with fail
  go_ret
  exact⟨rfl,rfl⟩
def Abx(off:Bool)(n:Int):Nat:=if n<0 then 2 else if off=true then 8 else 0
def Rw(m:CM)(n:Int):CM:=if n<0 then m else if m.off=true then m else { m with cut:=n}
theorem gH(B:Nat)(sa:Nat->Addr)(c rb:Nat)(ao:Option Addr)(cap:Nat)(m:CM)(n:Int)(w:World)(h:A1 w c rb ao cap m)(hS:Ey B sa w):
  Calls Tryz.prog 125 #[.pointer (some ⟨c,0,none⟩),.int .i64 n] w fun e w'=>e=.returned (errv sa (Abx m.off n))/\A1 w' c rb ao cap (Rw m n)/\Ae (· =c) w w':=by
 obtain⟨c0,c1,c2,c3,cf⟩:=Fg h
 obtain⟨g1,g2,g6,g7,_,_⟩:=hS
 have H:=Aia h
 clear h g2 g6
 unfold Abx Rw
 by_cases h1:n<0
 ·rw[if_pos h1,if_pos h1]
  go_enter func125,ntmps125
  go_wp2_with fail
  go_ret
  exact⟨rfl,H.out,Ae.refl _ _⟩
 rw[if_neg h1,if_neg h1]
 cases ho:m.off
 ·rw[ho]at c1
  rw[if_neg (by decide),if_neg (by decide)]
  go_enter func125,ntmps125
  go_wp2_with fail
  go_ret
  have e:=H.out.set2 n
  rw[ho]at e
  exact⟨rfl,e,Ai w c 2 _⟩
 ·rw[ho]at c1
  rw[if_pos rfl,if_pos rfl]
  go_enter func125,ntmps125
  go_wp2_with fail
  go_ret
  exact⟨rfl,H.out,Ae.refl _ _⟩
theorem Pa(c rb:Nat)(ao:Option Addr)(cap:Nat)(m:CM)(w:World)(h:A1 w c rb ao cap m):Calls Tryz.prog 52 #[.pointer (some ⟨c,0,none⟩)] w fun e w'=>e=.returned (.bool (!m.off))/\w=w':=by
 obtain⟨c0,c1,c2,c3,cf⟩:=Fg h
 clear h
 go_enter func52,ntmps52
 go_wp2_with fail
 go_ret
 exact⟨rfl,rfl⟩
def Co(l:List UInt8):ByteArray:=⟨l.toArray⟩
theorem Lp(w:World)(rb off cap:Nat)(l:List UInt8)(h:∀j (hj:j<l.length),w.cell? ⟨rb,off+j,none⟩=some (.int .u8 (l[j].toNat:Int))):
  (convert 85 9 (.slice (some ⟨rb,off,none⟩) l.length cap)).run Tryz.prog w=.ok (.string (Co l)) w:=
 run_convert_bytes_back w 85 9 5 ⟨rb,off,none⟩ cap l underlying85 underlying5 underlying9 (fun j hj=>by rw[Cz];exact h j hj)
theorem Wp(w:World)(cap:Nat):
  (convert 85 9 (.slice none 0 cap)).run Tryz.prog w=.ok (.string (Co [])) w:=
 run_convert_bytes_nil w 85 5 underlying85 underlying5 0 cap 9 underlying9
theorem Wm(w:World)(rb cap len a n:Nat)(h1:a+n<=cap):
  ∃A:Option Addr,(A=some ⟨rb,a,none⟩\/(n=0/\∃o,A=some ⟨rb,o,none⟩))/\(Instr.slice 85 (.slice (some ⟨rb,0,none⟩) len cap) (some (.int .i64 a)) (some (.int .i64 ((a:Int)+n))) none).run Tryz.prog w=.ok (.slice A n (cap-a)) w:=by
 have ht:Tryz.prog.underlying 85=some (.slice (Tryz.prog.elem 85)):=by kernel_rfl
 have hs:((sizeOf (Tryz.prog.elem 85)).run Tryz.prog w)=.ok 1 w:=by kernel_rfl
 refine⟨if cap=a then some ⟨rb,0,none⟩ else (some ⟨rb,0,none⟩:Option Addr).map (·.add (a*1)),?_,?_⟩
 ·by_cases h:cap=a
  ·right
   rw[if_pos h]
   exact⟨by omega,0,rfl⟩
  ·left
   rw[if_neg h,Nat.mul_one]
   show some (Addr.add ⟨rb,0,none⟩ a)=_
   rw[Cz,Nat.zero_add]
 ·rw[run_slice_lh w 85 (some ⟨rb,0,none⟩) len cap ht .i64 .i64 a ((a:Int)+n) (by omega) (by omega) (by omega),hs]
  show Result.ok (sliced _ _ _ _ _) w=_
  unfold sliced
  rw[show((a:Int)).toNat=a from by omega,show((a:Int)+n).toNat=a+n from by omega,show a+n-a=n from by omega]
theorem rB(c rb:Nat)(ao:Option Addr)(cap:Nat)(m:CM)(w:World)(h:A1 w c rb ao cap m):Calls Tryz.prog 187 #[.pointer (some ⟨c,0,none⟩)] w fun e w'=>e=.returned (.tuple #[])/\A1 w' c rb ao cap ⟨m.bs,false,-1,m.wr⟩/\Ae (· =c) w w':=by
 obtain⟨c0,c1,c2,c3,cf⟩:=Fg h
 have H1:=Aia ((h.set1 false).set2 (-1))
 clear h
 go_enter func187,ntmps187
 go_wp2_with fail
 first|(go_end0;exact⟨rfl,H1.out,(Ai w c 1 _).trans (Ai _ c 2 _)⟩)|(go_region;all_goals(go_wp2_with fail;go_end0;exact⟨rfl,H1.out,((Ai w c 1 _).trans (Ai _ c 2 _))⟩))
theorem Xa(B:Nat)(sa:Nat->Addr)(c rb:Nat)(ao:Option Addr)(cap:Nat)(m:CM)(at_ n:Int)(k:Nat)(w:World)(h:A1 w c rb ao cap m)(hS:Ey B sa w)(hk:Js m.off m.bs.length at_ n=k+1):
  Calls Tryz.prog 182 #[.pointer (some ⟨c,0,none⟩),.int .i64 at_,.int .i64 n] w fun e w'=>e=.returned (.tuple #[.string (Co []),errv sa (k+1)])/\w=w':=by
 have HS:=Aia hS
 have H:=Aia h
 clear h hS
 go_enter func182,ntmps182
 go_wp2_with fail
 refine(Rn B sa c rb ao cap m at_ n w H.out HS.out).mono ?_
 rintro e w' ⟨rfl,rfl⟩
 rw[hk]
 have he:errv sa (k+1)=.iface 372 (.pointer (some (sa k))):=rfl
 rw[he]
 go_wp2_with fail
 go_ret2
 exact⟨rfl,rfl⟩
theorem O9(B:Nat)(sa:Nat->Addr)(c rb:Nat)(ao:Option Addr)(cap:Nat)(m:CM)(a n:Nat)(w:World)(h:A1 w c rb ao cap m)(hS:Ey B sa w)(ho:m.off=false)(hn:a+n<=m.bs.length):
  Calls Tryz.prog 182 #[.pointer (some ⟨c,0,none⟩),.int .i64 a,.int .i64 n] w fun e w'=>e=.returned (.tuple #[.string (Co ((m.bs.drop a).take n)),.nilIface])/\w=w':=by
 have HS:=Aia hS
 have H:=Aia h
 obtain⟨c0,c1,c2,c3,cf⟩:=Fg h
 have hl:=h.len
 have hrm:=h.room
 have hk:Js m.off m.bs.length a n=0:=by rw[ho];exact Oj (by omega)
 have hll:((m.bs.drop a).take n).length=n:=by simp;omega
 rcases h.at_ with rfl|⟨hb,rfl⟩
 ·have hr:=h.row rfl
  obtain⟨A,hA,hsl⟩:=Wm w rb cap m.bs.length a n (by omega)
  have hcv:(convert 85 9 (.slice A n (cap-a))).run Tryz.prog w=.ok (.string (Co ((m.bs.drop a).take n))) w:=by
   rcases hA with rfl|⟨hn0,o,rfl⟩
   ·have:=Lp w rb a (cap-a) ((m.bs.drop a).take n) (fun j hj=>by rw[hll]at hj;rw[hr.cell (a+j) (by omega)];simp)
    rw[hll]at this;exact this
   ·subst hn0
    have:=Lp w rb o (cap-a) [] (fun j hj=>by simp at hj)
    simpa using this
  have HW:=IntWalk.i64_in ((a:Int)+n) (by omega)
  clear h hS hr hll hA
  go_enter func182,ntmps182
  go_wp2_with fail
  refine(Rn B sa c rb _ cap m a n w H.out HS.out).mono ?_
  rintro e w' ⟨rfl,rfl⟩
  rw[hk]
  rw[show errv sa 0=.nilIface from rfl]
  clear H HS hk
  go_wp2_with fail
  go_ret2
  exact⟨rfl,rfl⟩
 ·have ha0:a=0:=by rw[hb]at hn;simp at hn;omega
  have hn0:n=0:=by rw[hb]at hn;simp at hn;omega
  subst ha0;subst hn0
  have hsl:(Instr.slice 85 (.slice none m.bs.length cap) (some (.int .i64 ((0:Nat):Int))) (some (.int .i64 (((0:Nat):Int)+((0:Nat):Int)))) none).run Tryz.prog w=.ok (.slice none 0 cap) w:=by
   have ht:Tryz.prog.underlying 85=some (.slice (Tryz.prog.elem 85)):=by kernel_rfl
   have hs:((sizeOf (Tryz.prog.elem 85)).run Tryz.prog w)=.ok 1 w:=by kernel_rfl
   rw[run_slice_lh w 85 none m.bs.length cap ht .i64 .i64 ((0:Nat):Int) (((0:Nat):Int)+((0:Nat):Int)) (by omega) (by omega) (by omega),hs]
   show Result.ok (sliced _ _ _ _ _) w=_
   unfold sliced
   split<;>rfl
  have hcv:=Wp w cap
  simp only[Int.natCast_zero,Int.add_zero]at hsl hk ⊢
  clear h hS hll
  go_enter func182,ntmps182
  go_wp2_with fail
  refine(Rn B sa c rb _ cap m _ _ w H.out HS.out).mono ?_
  rintro e w' ⟨rfl,rfl⟩
  rw[hk]
  rw[show errv sa 0=.nilIface from rfl]
  clear H HS hk
  go_wp2_with fail
  go_ret2
  exact⟨by simp,rfl⟩
def Ex(bs:List UInt8)(a:Nat)(l:List UInt8)(j:Nat):List UInt8:=bs.take a++l.take j++bs.drop (a+j)
theorem S3(bs:List UInt8)(a:Nat)(l:List UInt8):Ex bs a l 0=bs:=by simp[Ex]
theorem Gg(bs:List UInt8)(a:Nat)(l:List UInt8)(j:Nat)(hj:j<=l.length)(h:a+j<=bs.length):(Ex bs a l j).length=bs.length:=by
 simp[Ex];omega
theorem gW(bs:List UInt8)(a:Nat)(l:List UInt8)(j:Nat)(hj:j<l.length)(h:a+j<bs.length):Ex bs a l (j+1)=(Ex bs a l j).set (a+j) l[j]:=by
 have h1:(bs.take a++l.take j).length=a+j:=by simp;omega
 unfold Ex
 rw[List.take_succ_eq_append_getElem hj,List.set_append_right _ _ (by omega),h1,Nat.sub_self]
 rw[List.drop_eq_getElem_cons h,List.set_cons_zero,<-Nat.add_assoc]
 simp only[List.append_assoc,List.cons_append,List.nil_append]
def Fp(cut:Int)(j:Nat):Int:=if cut= -1 then -1 else cut-j
theorem wO(cut:Int):Fp cut 0=cut:=by unfold Fp;split<;>omega
theorem wP{cut:Int}{j:Nat}(h0:-1<=cut)(hj:cut= -1\/(j:Int)<cut):(if -1<Fp cut j-1 then Fp cut j-1 else -1)=Fp cut (j+1):=by
 unfold Fp
 by_cases h:cut= -1
 ·simp[h]
 ·simp only[h,if_false]
  split<;>omega
def Bt(cut:Int)(len:Nat):Nat:=if cut= -1 then len else min cut.toNat len
def Ce(m:CM)(a:Nat)(l:List UInt8):CM:=⟨Ex m.bs a l (Bt m.cut l.length),decide (Bt m.cut l.length<l.length),Fp m.cut (Bt m.cut l.length),m.wr+Bt m.cut l.length⟩
def C8(cut:Int)(len:Nat):Nat:=if Bt cut len<len then 8 else 0
theorem Fj.set{w:World}{rb:Nat}{bs:List UInt8}(h:Fj w rb bs)(i:Nat)(x:UInt8)(hi:i<bs.length):Fj (w.setCell ⟨rb,i,none⟩ (.int .u8 (x.toNat:Int))) rb (bs.set i x):=by
 obtain⟨C,t,h1,h2,h3⟩:=h
 refine⟨C.setIfInBounds i (.int .u8 (x.toNat:Int)),t,Am _ h1,by simpa using h2,fun j hj=>?_⟩
 simp at hj
 by_cases e:i=j
 ·subst e
  have:i<C.size:=by omega
  simp[this]
 ·simp[e,h3 j hj]
theorem A1.setB{w:World}{c rb:Nat}{cap:Nat}{m:CM}(h:A1 w c rb (some ⟨rb,0,none⟩) cap m)(i:Nat)(x:UInt8)(hi:i<m.bs.length):A1 (w.setCell ⟨rb,i,none⟩ (.int .u8 (x.toNat:Int))) c rb (some ⟨rb,0,none⟩) cap ⟨m.bs.set i x,m.off,m.cut,m.wr⟩:=by
 refine⟨?_,h.ne,.inl rfl,fun _=>(h.row rfl).set i x hi,by simpa using h.len,by simpa using h.room⟩
 have h1:=(Ai w rb i (.int .u8 (x.toNat:Int))).get h.box (fun e=>h.ne e.symm)
 rw[h1]
 simp[Tq]
theorem T1(B:Nat)(sa:Nat->Addr)(c rb:Nat)(cap:Nat)(m:CM)(a:Nat)(s:ByteArray)(w:World)(h:A1 w c rb (some ⟨rb,0,none⟩) cap m)(hS:Ey B sa w)(hB:B<=c/\B<=rb)(ho:m.off=false)(hn:a+s.size<=m.bs.length)
  (hc0:-1<=m.cut) (hc1:m.cut<=9223372036854775807) (hw0:0<=m.wr) (hw1:m.wr<=1000000000):
  Calls Tryz.prog 239 #[.pointer (some ⟨c,0,none⟩),.int .i64 a,.string s] w fun e w'=>e=.returned (errv sa (C8 m.cut s.size))/\A1 w' c rb (some ⟨rb,0,none⟩) cap (Ce m a s.data.toList)/\Ae (fun b=>b=c\/b=rb) w w':=by
 have HS:=Aia hS
 have H:=Aia h
 have hl:=h.len
 have hk:Js m.off m.bs.length a s.size=0:=by rw[ho];exact Oj (by omega)
 have h0:A1 w c rb (some ⟨rb,0,none⟩) cap ⟨Ex m.bs a s.data.toList 0,false,Fp m.cut 0,m.wr+(0:Nat)⟩:=by
  rw[S3,wO,<-ho,show m.wr+((0:Nat):Int)=m.wr by omega];exact h
 have H0:=Aia h0
 have hK0:Hid (Ae (fun b=>b=c\/b=rb) w w):=Ae.refl _ _
 have hsz:s.data.toList.length=s.size:=rfl
 clear h hS h0
 go_enter func239,ntmps239
 go_wp2_with fail
 refine(Rn B sa c rb _ cap m a s.size w H.out HS.out).mono ?_
 rintro e w' ⟨rfl,rfl⟩
 rw[hk]
 rw[show errv sa 0=.nilIface from rfl]
 clear hk
 go_wp2_with fail
 go_loopw [19] (fun s19 wr=>∃j:Nat,j<=Bt m.cut s.size/\j<=s.size/\s19=.int .i64 j/\Hid (A1 wr c rb (some ⟨rb,0,none⟩) cap ⟨Ex m.bs a s.data.toList j,false,Fp m.cut j,m.wr+j⟩)/\Hid (Ae (fun b=>b=c\/b=rb) w wr)) (fun s19 _=>s.size-(intOf s19).toNat)
 case atStart=>exact⟨0,Nat.zero_le _,Nat.zero_le _,rfl,H0,hK0⟩
 case round=>
  obtain⟨j,hjn,hj,rfl,hcm,hkp⟩:=hrel
  obtain⟨c0,c1,c2,c3,cf⟩:=Fg hcm.out
  simp only at c0 c1 c2 c3
  rw[Gg m.bs a s.data.toList j (by omega) (by omega)]at c0
  by_cases hlt:j<s.size
  ·by_cases hz:Fp m.cut j=0
   ·have hce:m.cut=j:=by
     unfold Fp at hz
     split at hz<;>omega
    have hwn:Bt m.cut s.size=j:=by
     simp only[Bt,show ¬m.cut= -1 by omega,if_false];omega
    have C1:=hcm.out.set1 true
    have k1:=hkp.out.trans ((Ai wr c 1 (.bool true)).mono (fun b _ hb=>Or.inl hb))
    obtain⟨g1,g2,g6,g7,_,_⟩:=(HS.out.keep k1 (fun b hb=>by rcases hb with rfl|rfl;exact hB.1;exact hB.2))
    rw[hz]at c2
    have e2:C8 m.cut s.size=8:=by simp[C8,hwn,hlt]
    have e3:Ce m a s.data.toList=⟨Ex m.bs a s.data.toList j,true,Fp m.cut j,m.wr+j⟩:=by
     show(⟨Ex m.bs a s.data.toList (Bt m.cut s.size),decide (Bt m.cut s.size<s.size),Fp m.cut (Bt m.cut s.size),m.wr+Bt m.cut s.size⟩:CM)=_
     rw[hwn,decide_eq_true hlt]
    have E2:=Aia e2
    have E3:=Aia e3
    have C1H:=Aia C1
    have K1H:=Aia k1
    clear g1 g2 g6 C1 k1 e2 e3 hz hce hwn
    go_wp2_with fail
    go_ret
    rw[E2.out,E3.out]
    exact⟨rfl,C1H.out,K1H.out⟩
   ·have hz2:(Fp m.cut j==0)=false:=by simp[hz]
    have hr:=hcm.out.row rfl
    have hrl:a+j<(Ex m.bs a s.data.toList j).length:=by rw[Gg m.bs a s.data.toList j (by omega) (by omega)];omega
    obtain⟨vv,qv⟩:∃vv,wr.cell? ⟨rb,a+j,none⟩=some vv:=⟨_,hr.cell (a+j) hrl⟩
    have qf:=hr.free
    have HR:=Aia hr
    have HAJ:=IntWalk.i64_in ((a:Int)+j) (by omega)
    have hlt2:(j:Int)<(s.size:Int):=by omega
    have haj2:(a:Int)+j<(m.bs.length:Int):=by omega
    clear hr hrl
    go_upto_region 10 with fail
    go_region
    have hcs:m.cut= -1\/(j:Int)<m.cut:=by
     by_cases e:m.cut= -1
     ·exact .inl e
     ·right
      have e1:Fp m.cut j=m.cut-j:=by simp[Fp,e]
      have e2:Bt m.cut s.size=min m.cut.toNat s.size:=by simp[Bt,e]
      rw[e1]at hz
      rw[e2]at hjn
      omega
    have hjn2:j+1<=Bt m.cut s.size:=by
     by_cases e:m.cut= -1
     ·simp[Bt,e];omega
     ·simp only[Bt,e,if_false];omega
    have hcut2:=Aia (wP hc0 hcs)
    have hcub:-1<=Fp m.cut j/\Fp m.cut j<=9223372036854775807:=by unfold Fp;split<;>omega
    have e1:(Ex m.bs a s.data.toList j).set (a+j) s[j]=Ex m.bs a s.data.toList (j+1):=(gW m.bs a s.data.toList j (by omega) (by omega)).symm
    have cm1:=hcm.out.setB (a+j) s[j] (by simp only;rw[Gg m.bs a s.data.toList j (by omega) (by omega)];omega)
    simp only at cm1
    rw[e1]at cm1
    have kd:Ae (fun b=>b=c\/b=rb) w ((wr.setCell ⟨rb,a+j,none⟩ (.int .u8 (s[j].toNat:Int))).drew):=(hkp.out.trans ((Ai wr rb (a+j) _).mono (fun b _ hb=>.inr hb))).drew
    have C1:=Aia (cm1.keep (Ae.drew (Ae.refl (fun _=>False) _)) (fun _ h=>h.elim))
    have K1:=Aia kd
    clear cm1 kd e1 c0 c1 c2 c3 cf qv qf HR hkp hcm hz hz2
    generalize World.drew _=w1 at C1 K1 ⊢
    obtain⟨x0,x1,x2,x3,xf⟩:=Fg C1.out
    have C2:=Aia (C1.out.set3 (m.wr+j+1))
    have K2:=Aia (K1.out.trans ((Ai w1 c 3 (.int .i64 (m.wr+j+1))).mono (fun b _ hb=>.inl hb)))
    simp only at x0 x1 x2 x3
    go_upto_region 12 with fail
    generalize World.setCell _ _ _=w2 at C2 K2 ⊢
    obtain⟨y0,y1,y2,y3,yf⟩:=Fg C2.out
    simp only at y0 y1 y2 y3
    go_wp2_with fail
    rw[hcut2.out]
    have C3:=C2.out.set2 (Fp m.cut (j+1))
    simp only at C3
    rw[show m.wr+(j:Int)+1=m.wr+((j+1:Nat):Int)by omega]at C3
    have C3H:=Aia C3
    clear C3
    go_roundw
    case rel=>exact⟨j+1,hjn2,by omega,by go_num,C3H,K2.out.trans ((Ai w2 c 2 _).mono (fun b _ hb=>.inl hb))⟩
    case measure=>simp[intOf];omega
  ·obtain rfl:j=s.size:=by omega
   have hwn:Bt m.cut s.size=s.size:=by
    have:Bt m.cut s.size<=s.size:=by unfold Bt;split;exact Nat.le_refl _;exact Nat.min_le_right _ _
    omega
   have e2:C8 m.cut s.size=0:=by simp[C8,hwn]
   have e3:Ce m a s.data.toList=⟨Ex m.bs a s.data.toList s.size,false,Fp m.cut s.size,m.wr+s.size⟩:=by
    show(⟨Ex m.bs a s.data.toList (Bt m.cut s.size),decide (Bt m.cut s.size<s.size),Fp m.cut (Bt m.cut s.size),m.wr+Bt m.cut s.size⟩:CM)=_
    rw[hwn,decide_eq_false (Nat.lt_irrefl _)]
   have E2:=Aia e2
   have E3:=Aia e3
   clear e2 e3 hwn
   go_wp2_with fail
   go_ret
   rw[E2.out,E3.out]
   exact⟨rfl,hcm.out,hkp.out⟩
structure Kj (m:CM) (k:Int):Prop where
 c0:-1<=m.cut
 c1:m.cut<=9223372036854775807
 w0:0<=m.wr
 w1:m.wr<=k
theorem Kj.mono{m:CM}{k k':Int}(h:Kj m k)(hk:k<=k'):Kj m k':=⟨h.c0,h.c1,h.w0,by have:=h.w1;omega⟩
theorem gR{c:Nat}{b:UInt8}(h:c<4294967296):c ^^^ b.toNat<4294967296:=by
 refine Nat.xor_lt_two_pow (n:=32) h ?_
 have:=b.toNat_lt
 omega
theorem gD(l:List UInt8)(k:Nat)(hk:k<l.length)(c:Nat):Ft (l.take (k+1)) c=T7 (Ft (l.take k) c) l[k]:=by
 rw[List.take_succ_eq_append_getElem hk,gE]
theorem Afi{c:Nat}(h:c<4294967296):4294967295 ^^^ c=4294967295-c:=by
 have e:=congrArg BitVec.toNat (BitVec.xor_allOnes (x:=BitVec.ofNat 32 c))
 rw[BitVec.toNat_xor,BitVec.toNat_not,BitVec.toNat_ofNat,BitVec.toNat_allOnes,Nat.mod_eq_of_lt (show c<2 ^ 32 by omega),Nat.xor_comm]at e
 exact e
theorem Agh{d:Nat}(h:d<4294967296):bits .xor .u32 ((d:Int)/2) (3988292384*bits .and .u32 (d:Int) 1%4294967296)=((Q7 d:Nat):Int):=by
 rw[show(1:Int)=((1:Nat):Int)from rfl,u32_and_nat d 1 h (by decide),nat_mask1,show((d:Int)/2)=((d/2:Nat):Int)by omega]
 unfold Q7
 by_cases e:d%2=1
 ·rw[if_pos e,e]
  exact u32_xor_nat (d/2) 3988292384 (by omega) (by decide)
 ·rw[if_neg e,show d%2=0 by omega]
  exact u32_xor_nat (d/2) 0 (by omega) (by decide)
theorem Afo(s:ByteArray)(w:World)(hs:s.size<=100000):Calls Tryz.prog 262 #[.string s] w fun e w'=>e=.returned (.int .i64 (crc s.data.toList:Nat))/\w=w':=by
 have hlen:s.data.toList.length=s.size:=rfl
 have HLEN:=Aia hlen
 clear hlen
 go_enter func262,ntmps262
 go_wp2_with fail
 go_loop [3,7] (fun s3 s7=>∃k:Nat,k<=s.size/\s3=.int .u32 (Ft (s.data.toList.take k) 4294967295:Nat)/\s7=.int .i64 k) (fun _ s7=>s.size-(intOf s7).toNat)
 case atStart=>exact⟨0,Nat.zero_le _,rfl,rfl⟩
 case round=>
  obtain⟨k,hk,rfl,rfl⟩:=hrel
  have hc:Ft (s.data.toList.take k) 4294967295<4294967296:=V7 (by decide)
  by_cases hlt:k<s.size
  ·have hT:=Aia (gD s.data.toList k (by rw[HLEN.out];exact hlt) 4294967295)
   obtain⟨c,hcc⟩:∃c,c=Ft (s.data.toList.take k) 4294967295:=⟨_,rfl⟩
   rw[<-hcc]at hc hT ⊢
   have hb:=s[k].toNat_lt
   have hx:bits .xor .u32 (c:Int) ((s[k].toNat:Int)%4294967296)=((c ^^^ s[k].toNat:Nat):Int):=by
    rw[show(s[k].toNat:Int)%4294967296=(s[k].toNat:Int)by omega]
    exact u32_xor_nat c _ hc (by omega)
   have hd:c ^^^ s[k].toNat<4294967296:=gR hc
   have HCC:=Aia hcc
   have HC:=Aia hc
   have HD:=Aia hd
   clear hcc hc hb hd
   go_wp2_with fail
   go_loop [3,16] (fun s3 s16=>∃j:Nat,j<=8/\s3=.int .u32 (Jm j (c ^^^ s[k].toNat):Nat)/\s16=.int .i64 j) (fun _ s16=>8-(intOf s16).toNat)
   case atStart=>exact⟨0,Nat.zero_le _,rfl,rfl⟩
   case round=>
    obtain⟨j,hj,rfl,rfl⟩:=hrel
    clear hx
    by_cases hlt8:j<8
    ·have hq:Jm j (c ^^^ s[k].toNat)<4294967296:=V6 HD.out
     have hS:Hid (Jm (j+1) (c ^^^ s[k].toNat)=Q7 (Jm j (c ^^^ s[k].toNat))):=(rfl:Jm (j+1) (c ^^^ s[k].toNat)=Q7 (Jm j (c ^^^ s[k].toNat)))
     generalize Jm j (c ^^^ s[k].toNat)=d at hq hS ⊢
     have hB:=Aia (Agh hq)
     go_wp2_with fail
     go_round
     case rel=>exact⟨j+1,by omega,by rw[hB.out,hS.out],by go_num⟩
     case measure=>simp[intOf];omega
    ·have h8:j=8:=by omega
     go_wp2_with fail
     go_round
     case rel=>exact⟨k+1,by omega,by rw[hT.out,h8];rfl,by go_num⟩
     case measure=>simp[intOf];omega
  ·have hN:bits .xor .u32 IntKind.u32.max (Ft (s.data.toList.take k) 4294967295:Nat)=((4294967295-Ft (s.data.toList.take k) 4294967295:Nat):Int):=by
    rw[show IntKind.u32.max=((4294967295:Nat):Int)from rfl,u32_xor_nat _ _ (by decide) hc,Afi hc]
   have hw:IntKind.i64.wrap ((4294967295-Ft (s.data.toList.take k) 4294967295:Nat):Int)=((4294967295-Ft (s.data.toList.take k) 4294967295:Nat):Int):=IntWalk.i64_in _ (by omega)
   have hE:Hid (4294967295-Ft (s.data.toList.take k) 4294967295=crc s.data.toList):=Aia (by
    unfold crc
    rw[List.take_of_length_le (by rw[HLEN.out];omega)])
   go_wp2_with fail
   go_ret
   exact⟨A6 (by rw[hE.out];exact IntWalk.wrap64_in ((crc s.data.toList:Nat):Int) (by have:=Aes s.data.toList;omega)),rfl⟩
theorem rH:∀(i n:Nat),beB (i+1) n=UInt8.ofNat (n/256 ^ i)::beB i n
 |0,n=>by simp[beB]
 |i+1,n=>by
  rw[beB,rH i (n/256),beB,List.cons_append,Nat.div_div_eq_div_mul,Nat.pow_succ,Nat.mul_comm]
def numL(many n i:Nat):List UInt8:=List.replicate (many-i) 0++beB i n
theorem Oh{many n i:Nat}(h:i<=many):(numL many n i).length=many:=by simp[numL,Dv];omega
theorem Aag{many n i:Nat}(h:i<many):(numL many n i).set (many-1-i) (UInt8.ofNat (n/256 ^ i))=numL many n (i+1):=by
 unfold numL
 rw[rH,show many-i=(many-1-i)+1 by omega,List.replicate_succ',List.append_assoc,List.set_append_right _ _ (by simp),show many-(i+1)=many-1-i by omega]
 simp
theorem Agg(n i:Nat):((n:Int)/2 ^ (8*i)%256)=((UInt8.ofNat (n/256 ^ i)).toNat:Int):=by
 rw[UInt8.toNat_ofNat',show(256:Nat) ^ i=2 ^ (8*i)by rw[Nat.pow_mul]]
 simp
theorem Us(n many:Nat)(hm:many<=8)(hn:n<9223372036854775808)(w:World):Calls Tryz.prog 261 #[.int .i64 n,.int .i64 many] w fun e w'=>e=.returned (.string (Co (beB many n)))/\Below w.heap.size w w':=by
 have hmk:=run_make_row' (P:=Tryz.prog) 85 5 (.int .u8 0) 1 underlying85 Tryz.infoByte rfl .i64 .i64 many (by omega) (by omega)
 have r1:=Fj.made w many 5
 have b1:Below w.heap.size w (w.alloc (.cells (madeCells #[.int .u8 0] many) 5)):=(Below.refl _ _).alloc (Nat.le_refl _) _
 have HR:=Aia r1
 have HB:=Aia b1
 clear r1 b1
 go_enter func261,ntmps261
 go_wp2_with fail
 generalize w.alloc _=w1 at HR HB ⊢
 go_loopw [10] (fun s10 wr=>∃i:Nat,i<=many/\s10=.int .i64 i/\Hid (Fj wr w.heap.size (numL many n i))/\Hid (Below w.heap.size w wr)) (fun s10 _=>many-(intOf s10).toNat)
 case atStart=>exact⟨0,Nat.zero_le _,rfl,(show Hid (Fj w1 w.heap.size (numL many n 0))from by unfold numL;rw[Nat.sub_zero,show beB 0 n= [] from rfl,List.append_nil];exact HR),HB⟩
 case round=>
  obtain⟨i,hi,rfl,hr,hb⟩:=hrel
  clear HR HB
  by_cases hlt:i<many
  ·have hl:=Oh (n:=n) hi
   obtain⟨vv,qv⟩:∃vv,wr.cell? ⟨w.heap.size,many-1-i,none⟩=some vv:=⟨_,hr.out.cell (many-1-i) (by omega)⟩
   have qf:=hr.out.free
   clear hl
   go_wp2_with fail
   go_round
   case rel=>
    rw[Agg]
    refine⟨i+1,by omega,by go_num,(show Hid _ from ?_),(show Below _ _ _ from hb.out.trans ((Ai wr w.heap.size (many-1-i) _).below hb.out.size (fun b hb=>by omega)))⟩
    have:=hr.out.set (many-1-i) (UInt8.ofNat (n/256 ^ i)) (by rw[Oh hi];omega)
    rw[Aag hlt]at this
    exact this
   case measure=>simp[intOf];omega
  ·have e:i=many:=by omega
   subst e
   have hcv:=Lp wr w.heap.size 0 i (numL i n i) (fun j hj=>by rw[Nat.zero_add];exact hr.out.cell j hj)
   rw[Oh (Nat.le_refl _)]at hcv
   have HE:Hid (numL i n i=beB i n):=Aia (by simp[numL])
   go_wp2_with fail
   go_ret
   exact⟨by rw[HE.out];rfl,hb.out⟩
theorem tA(l:List UInt8)(k:Nat)(hk:k<l.length):Gc (l.take (k+1))=256*Gc (l.take k)+l[k].toNat:=by
 rw[List.take_succ_eq_append_getElem hk,Qv]
theorem vP(a b:Nat)(ha:a<9223372036854775808)(hb:b<9223372036854775808):bits .or .i64 (a:Int) (b:Int)=((a|||b:Nat):Int):=by
 have hx:a|||b<2 ^ 63:=Nat.or_lt_two_pow (by omega) (by omega)
 show IntKind.i64.wrap ((BitVec.ofInt 64 (a:Int)|||BitVec.ofInt 64 (b:Int)).toNat:Int)=_
 rw[BitVec.toNat_or,ofInt_u64 a (by omega),ofInt_u64 b (by omega)]
 exact IntWalk.i64_in _ (by omega)
theorem Af1(c b:Nat)(hc:c<1099511627776)(hb:b<256):bits .or .i64 ((c:Int)*256) (wrap64 (b:Int))=((256*c+b:Nat):Int):=by
 rw[show wrap64 (b:Int)=(b:Int)from IntWalk.wrap64_in _ (by omega),show(c:Int)*256=((256*c:Nat):Int)by omega,vP _ _ (by omega) (by omega),nat_join 8 _ _ (by omega) (by omega)]
theorem Y8(s:ByteArray)(hs:s.size<=6)(w:World):Calls Tryz.prog 226 #[.string s] w fun e w'=>e=.returned (.int .i64 (Gc s.data.toList:Nat))/\w=w':=by
 have hlen:s.data.toList.length=s.size:=rfl
 have HLEN:=Aia hlen
 clear hlen
 go_enter func226,ntmps226
 go_wp2_with fail
 go_loop [3,7] (fun s3 s7=>∃k:Nat,k<=s.size/\s3=.int .i64 (Gc (s.data.toList.take k):Nat)/\s7=.int .i64 k) (fun _ s7=>s.size-(intOf s7).toNat)
 case atStart=>exact⟨0,Nat.zero_le _,rfl,rfl⟩
 case round=>
  obtain⟨k,hk,rfl,rfl⟩:=hrel
  by_cases hlt:k<s.size
  ·have hT:=Aia (tA s.data.toList k (by rw[HLEN.out];exact hlt))
   have hb:=Hh (s.data.toList.take k)
   have hbl:(s.data.toList.take k).length<=5:=by simp;omega
   have hb2:Gc (s.data.toList.take k)<1099511627776:=Nat.lt_of_lt_of_le hb (Nat.pow_le_pow_right (n:=256) (by decide) hbl)
   obtain⟨c,hcc⟩:∃c,c=Gc (s.data.toList.take k):=⟨_,rfl⟩
   rw[<-hcc]at hb2 hT ⊢
   have hO:=Af1 c s[k].toNat hb2 s[k].toNat_lt
   clear hb hbl hcc
   go_wp2_with fail
   go_round
   case rel=>exact⟨k+1,by omega,by rw[hT.out];rfl,by go_num⟩
   case measure=>simp[intOf];omega
  ·have HE:Hid (Gc (s.data.toList.take k)=Gc s.data.toList):=Aia (by rw[List.take_of_length_le (by rw[HLEN.out];omega)])
   go_wp2_with fail
   go_ret
   exact⟨A6 (by rw[HE.out]),rfl⟩
end Go.Proofs.YtikehilbmldadaaGreatDoor
