import Derived.Test.YtikehilbmldadaaGreatDoorP06
import Derived.Test.YtikehilbmldadaaGreatDoorP07
import Derived.Test.YtikehilbmldadaaGreatDoorP15
set_option maxHeartbeats 4000000
set_option maxRecDepth 100000
set_option linter.unusedVariables false
namespace Go.Proofs.YtikehilbmldadaaGreatDoor
open Proofs.Tryz YtikehilbmldadaaGreatDoor.Tryz RowKit
open Go renaming World->V,Value->ZE,RowKit.Hid->ZG,Calls->ZH,Value.int->I,IntKind.i64->J,Value.slice->F,Value.pointer->ZA,Value.string->ZB,Ending.returned->ZD,Value.bool->ZK,Value.tuple->ZM,Proofs.Tryz.prog->ZI
open Option renaming some->U,none->O
theorem J3.write{m:CM}{k:Int}(h:J3 m k)(a:Nat)(l:List UInt8):J3 (Be m a l) (k+l.length):=by
 have d:=Hx m.cut l.length;have h0:=h.c0;have h1:=h.c1;have h2:=h.w0;have h3:=h.w1;refine⟨zW h0,?_,?_,?_⟩
 ·show Eg m.cut (Bj m.cut l.length)<=_
  unfold Eg;split<;>omega
 ·show 0<=m.wr+(Bj m.cut l.length:Int);omega
 ·show m.wr+(Bj m.cut l.length:Int)<=_;omega
def Io(c:Nat)(lv:ZE)(dead:Bool):Obj:=.cells #[ZA (U ⟨c,0,O⟩),lv,ZK dead] 193
theorem Ha{w:V}{rg c:Nat}{lv:ZE}{dead:Bool}(h:w.heap[rg]? =U (Io c lv dead)):
  w.cell? ⟨rg,0,O⟩=U (ZA (U ⟨c,0,O⟩))/\w.cell? ⟨rg,1,O⟩=U lv/\w.cell? ⟨rg,2,O⟩=U (ZK dead)/\∀o,w.frozen? ⟨rg,o,O⟩=false:=by
 unfold Io at h;simp[World.cell?,World.frozen?,h]
theorem Py(sa:Nat->Addr)(k:Nat):errv sa (k+1)=.iface 372 (ZA (U (sa k))):=rfl
theorem Fe(sa:Nat->Addr):errv sa 0=.nilIface:=rfl
structure WrK (B:Nat) (sa:Nat->Addr) (w0:V) (rg c rb cap:Nat) (lv:ZE) (dead:Bool) (x:Ap) (xb:Nat) (m:CM) (w:V):Prop where
 ring:w.heap[rg]? =U (Io c lv dead)
 mem:A7 w c rb (U ⟨rb,0,O⟩) cap m
 se:Hk B sa w
 rc:w.heap[xb]? =U (D7 x)
 kp:Ac (fun b=>b=c\/b=rb) w0 w
theorem WrK.step{B:Nat}{g:Nat->Addr}{w0:V}{rg c rb cap:Nat}{lv:ZE}{dead:Bool}{x:Ap}{a:Nat}{m f:CM}{w w':V}(h:WrK B g w0 rg c rb cap lv dead x a m w)(hne:rg≠c/\rg≠rb/\a≠c/\a≠rb)(d:B<=c/\B<=rb)
  (k:Ac (fun b=>b=c\/b=rb) w w') (i:A7 w' c rb (U ⟨rb,0,O⟩) cap f):WrK B g w0 rg c rb cap lv dead x a f w':=
 ⟨k.get h.ring (by rintro(e|e);exact hne.1 e;exact hne.2.1 e),i,h.se.keep k (fun b j=>by rcases j with rfl|rfl;exact d.1;exact d.2),k.get h.rc (by rintro(e|e);exact hne.2.2.1 e;exact hne.2.2.2 e),h.kp.trans k⟩
theorem WrK.below{B:Nat}{a:Nat->Addr}{w0:V}{rg c rb cap:Nat}{lv:ZE}{dead:Bool}{x:Ap}{d:Nat}{m:CM}{w w':V}(h:WrK B a w0 rg c rb cap lv dead x d m w)(b:Below w.heap.size w w'):WrK B a w0 rg c rb cap lv dead x d m w':=
 ⟨Ae b h.ring (Aa h.ring),h.mem.keep (Al b) (fun _ h=>h.elim),h.se.below b,Ae b h.rc (Aa h.rc),h.kp.trans ((Al b).mono (fun _ _ h=>h.elim))⟩
theorem kJ{B:Nat}{d:Nat->Addr}{w0:V}{rg c rb cap:Nat}{lv:ZE}{dead:Bool}{x:Ap}{a:Nat}{m:CM}{w:V}(h:WrK B d w0 rg c rb cap lv dead x a m w):
  w.cell? ⟨rg,0,O⟩=U (ZA (U ⟨c,0,O⟩))/\w.cell? ⟨a,0,O⟩=U (I J x.seq)/\w.cell? ⟨a,1,O⟩=U (I J x.ent)/\w.cell? ⟨a,2,O⟩=U (I J x.kind)/\w.cell? ⟨a,3,O⟩=U (I J x.tick):=
 ⟨(Ha h.ring).1,Ay h.rc⟩
theorem Aac(B:Nat)(d:Nat->Addr)(c rb cap:Nat)(m:CM)(a:Nat)(w:V)(h:A7 w c rb (U ⟨rb,0,O⟩) cap m)(f:Hk B d w)(i:m.off=false)(g:a+1<=m.bs.length):
  ZH ZI 182 #[ZA (U ⟨c,0,O⟩),I J a,I J 1] w fun e w'=>e=ZD (ZM #[ZB (Aw ((m.bs.drop a).take 1)),.nilIface])/\w=w':=Re B d c rb _ cap m a 1 w h f i g
theorem xC{off:Bool}{len:Nat}{a n:Int}(h:Fm off len a n=0):off=false/\0<=a/\0<=n/\a+n<=len:=by
 unfold Fm at h;split at h
 ·cases h
 ·split at h
  ·cases h
  ·rename_i h1 h2;exact⟨by simpa using h2,by omega,by omega,by omega⟩
theorem gC(B:Nat)(g:Nat->Addr)(rg c rb cap:Nat)(lv:ZE)(dead:Bool)(m:CM)(x:Ap)(k:Int)(w:V)(hr:w.heap[rg]? =U (Io c lv dead))(hm:A7 w c rb (U ⟨rb,0,O⟩) cap m)(hS:Hk B g w)
  (hne:rg≠c/\rg≠rb) (hB:B<=c/\B<=rb) (hx:Kv x) (hk:J3 m k) (o:k<=900000000) (hl:153<=m.bs.length):
  ZH ZI 198 #[ZA (U ⟨rg,0,O⟩),Aq x] w fun e w'=>e=ZD (errv g (A4 m x).1)/\A7 w' c rb (U ⟨rb,0,O⟩) cap (A4 m x).2/\Ac (fun b=>b=c\/b=rb) w w':=by
 have bv:=Aa hr;have bq:=Aa hm.box;have az:rb<w.heap.size:=by
  obtain⟨C,t,h,_⟩:=hm.row rfl;exact Aa h
 have K0:WrK B g w rg c rb cap lv dead x w.heap.size m (w.alloc (D7 x)):=
  ⟨Bp _ hr,hm.keep (Al ((R1 _ _).alloc (Y2 _) _)) (fun _ h=>h.elim),hS.below ((R1 _ _).alloc (Y2 _) _),Ab _ _,(Ac.refl _ _).alloc _⟩
 have ac:rg≠c/\rg≠rb/\w.heap.size≠c/\w.heap.size≠rb:=⟨hne.1,hne.2,by omega,by omega⟩
 obtain⟨a,S⟩:∃a,a=C9 x:=⟨_,rfl⟩
 have bp:a<=136:=by rw[S];unfold C9;omega
 have hA:((x.seq:Int)-1)%9*17=(a:Int):=by
  have:=hx.s1;rw[S];unfold C9;omega
 have a5:(1:Int)<=x.seq:=by have:=hx.s1;omega
 have a6:(x.seq:Int)<4294967296:=by have:=hx.s2;omega
 obtain⟨d,Q⟩:∃d,d=a+16:=⟨_,rfl⟩
 have ay:(a:Int)+17-1=(d:Int):=by omega
 have bf:d<=152:=by omega
 have n:=G (show A4 m x=if Fm m.off m.bs.length (d:Int) 1=0 then (if m.bs.getD d 0=0 then A4.put2 m x else if Bb m.cut 1=0 then A4.put2 (Be m d [0]) x else (Bb m.cut 1,Be m d [0])) else (Fm m.off m.bs.length (d:Int) 1,m)from by
  rw[Q,S];rfl)
 have av:=G (show ∀m,A4.put2 m x=if Bb m.cut 16=0 then (Bb (Be m a (A0 x)).cut 1,Be (Be m a (A0 x)) d [165]) else (Bb m.cut 16,Be m a (A0 x))from fun m=>by
  rw[Q,S];rfl)
 have l:=G K0;have HA:=G S;have HX:=G hx;have HM:=G hk;unfold D7 at l;clear K0 hr hm hS hne S hx Q;unfold Aq;obtain⟨p,hp⟩:∃p,p=A4 m x:=⟨_,rfl⟩
 rw[<-hp]at n ⊢;have bm:=G hp;clear hp;go_enter func198,ntmps198;go_upto_region 1 with fail;generalize w.alloc _=w1 at l ⊢;obtain⟨r0,r1,r2,rf⟩:=Ha l.ring;obtain⟨x0,x1,x2,x3⟩:=Ay l.rc;clear r1 r2 x1 x2 x3;by_cases R:Fm m.off m.bs.length (d:Int) 1=0
 ·obtain⟨ad,_,_,bu⟩:=xC R;rw[if_pos R]at n;have v:(m.bs.drop d).take 1= [m.bs.getD d 0]:=by
   rw[Of,R4 (show d<m.bs.length by omega)];rw[List.take_one,List.head?_drop,R4 (show d<m.bs.length by omega)];rfl
  obtain⟨z,hz⟩:∃z,z=m.bs.getD d 0:=⟨_,rfl⟩
  rw[<-hz]at v n;have ah:(Aw [z]).toList= [z]:=by rw[Zz3];rfl
  have L:=G ad;have bx:=hk.w1;have HG:=G v;have Y:=G ah;have y:=G hk;have M:ZG (∀(a':Nat) (s:ByteArray) (K:CM) (k':Int) (W:V),K.off=false->K.bs.length=m.bs.length->a'+s.size<=153->J3 K k'->k'<=1000000000->WrK B g w rg c rb cap lv dead x w.heap.size K W->
    ZH ZI 239 #[ZA (U ⟨c,0,O⟩),I J a',ZB s] W fun e w'=>e=ZD (errv g (Bb K.cut s.size))/\WrK B g w rg c rb cap lv dead x w.heap.size (Be K a' s.data.toList) w'):=(show _ from by
   intro a' s K k' W a1 bt bw E br P;have h1:=E.w1;refine(Xg B g c rb cap K a' s W P.mem P.se hB a1 (by omega) E.c0 E.c1 E.w0 (by omega)).mono ?_;rintro e w' ⟨rfl,q1,q2⟩;exact⟨rfl,P.step ac hB q2 q1⟩)
  clear R ad v hz ah hk;go_wp2_with fail;refine(Aac B g c rb cap m d w1 l.mem l.se L (by omega)).mono ?_;rintro e w' ⟨rfl,rfl⟩;rw[HG.out];clear a5 a6 hA x0;obtain⟨zb,ag⟩:∃zb,((Aw [z]).toList== [0])=zb:=⟨_,rfl⟩
  have X:=G (show zb=decide (z=0)from by rw[<-ag,Y.out];exact Bool.eq_iff_iff.2 (by simp));go_upto_if 32 with fail;clear ag;go_cut [] (fun wx=>∃f:CM,ZG (WrK B g w rg c rb cap lv dead x w.heap.size f wx)/\ZG (p=A4.put2 f x)/\ZG (f.off=false)/\ZG (J3 f (k+1))/\ZG (f.bs.length=m.bs.length));case first=>
   by_cases u:z=0
   ·obtain rfl:zb=true:=by rw[X.out];simp[u]
    rw[if_pos u]at n;clear u;go_wp2_with fail;go_meet;exact⟨m,l,n,L,y.mono (by omega),rfl⟩
   ·obtain rfl:zb=false:=by rw[X.out];simp[u]
    rw[if_neg u]at n;clear u;go_wp2_with fail;refine(M d ⟨#[0]⟩ m k w1 L rfl (by show d+1<=153;omega) y (by omega) l.out).mono ?_;rintro e w2 ⟨rfl,h2⟩;rw[show(⟨#[0]⟩:ByteArray).size=1 from rfl];by_cases i:Bb m.cut 1=0
    ·rw[if_pos i]at n;have HW:=G i;have H2:=G h2;have A:ZG ((Be m d [0]).off=false):=G (by
      show decide (Bj m.cut 1<1)=false
      rw[J4 i];rfl)
     clear i h2;rw[HW.out,Fe];go_wp2_with fail;go_meet;exact⟨_,H2,n,A,y.write d [0],Ei _ _ _ _ (Hx _ _) (by have:=Hx m.cut 1;show d+Bj m.cut 1<=_;omega)⟩
    ·obtain⟨e8,_⟩:=Ll i;rw[if_neg i,e8]at n;have H2:=G h2;clear i h2;rw[e8,Py];go_wp2_with fail;go_ret;rw[n.out];exact⟨rfl,H2.mem,H2.kp⟩
  case rest=>
  obtain⟨f,D,q,a2,H,hl1⟩:=hcut;obtain⟨r0,r1,r2,rf⟩:=Ha D.ring;obtain⟨x0,x1,x2,x3⟩:=Ay D.rc;clear n l y HG Y r1 r2 ay;rw[av.out]at q;have T:ZG (∀W,WrK B g w rg c rb cap lv dead x w.heap.size f W->ZH ZI 227 #[.agg #[I J x.seq,I J x.ent,I J x.kind,I J x.tick]] W fun e w'=>e=ZD (ZB (Aw (A0 x)))/\WrK B g w rg c rb cap lv dead x w.heap.size f w'):=(show _ from by
   intro W P;refine(Zp x HX.sm W).mono ?_;rintro e w' ⟨rfl,b⟩;exact⟨rfl,P.below b⟩)
  have HW16:ZG (∀W,WrK B g w rg c rb cap lv dead x w.heap.size f W->ZH ZI 239 #[ZA (U ⟨c,0,O⟩),I J a,ZB (Aw (A0 x))] W fun e w'=>e=ZD (errv g (Bb f.cut 16))/\WrK B g w rg c rb cap lv dead x w.heap.size (Be f a (A0 x)) w'):=(show _ from by
   intro W P;have ae:(Aw (A0 x)).size=16:=by rw[Bz,B7]
   have:=M a (Aw (A0 x)) f (k+1) W a2 hl1 (by rw[ae];omega) H (by omega) P;rw[ae,Ik]at this;exact this)
  have KD:ZG (∀W,WrK B g w rg c rb cap lv dead x w.heap.size f W->WrK B g w rg c rb cap lv dead x w.heap.size f W.drew):=(show _ from fun W h=>⟨h.ring,h.mem.keep (Ac.drew (Ac.refl (fun _=>False) _)) (fun _ h=>h.elim),h.se.keep (Ac.drew (Ac.refl (fun _=>False) _)) (fun _ h=>h.elim),h.rc,h.kp.drew⟩)
  go_upto_region 10 with fail;go_cut [10] (fun a8 wx=>a8=errv g (Bb f.cut 16)/\ZG (WrK B g w rg c rb cap lv dead x w.heap.size (Be f a (A0 x)) wx));case first=>
   go_region_held3 (fun w'=>w'.cell? ⟨rg,0,O⟩=U (ZA (U ⟨c,0,O⟩))/\w'.cell? ⟨w.heap.size,0,O⟩=U (I J x.seq)/\w'.cell? ⟨w.heap.size,1,O⟩=U (I J x.ent)/\w'.cell? ⟨w.heap.size,2,O⟩=U (I J x.kind)/\w'.cell? ⟨w.heap.size,3,O⟩=U (I J x.tick))
    (first|exact⟨r0,x0,x1,x2,x3⟩|exact kJ k2|exact kJ k3)
    (first|(go_at_call 227;refine(T _ ?_).mono ?_;(repeat(first|exact D.out|refine KD _ ?_));rintro e w2 ⟨rfl,k2⟩)|(go_at_call 239;refine(HW16 _ ?_).mono ?_;(repeat(first|exact k2|refine KD _ ?_));rintro e w3 ⟨rfl,k3⟩))
   all_goals(go_wp2_with fail;go_meet)
   all_goals exact⟨rfl,k3⟩
  case rest=>
  obtain⟨rfl,o⟩:=hcut;clear r0 rf x0 x1 x2 x3 T HW16 KD D;obtain⟨r0,r1,r2,rf⟩:=Ha o.ring;clear r1 r2;by_cases i:Bb f.cut 16=0
  ·rw[if_pos i]at q;have A:ZG ((Be f a (A0 x)).off=false):=G (by
    show decide (Bj f.cut (A0 x).length<(A0 x).length)=false
    rw[B7,J4 i];rfl)
   have Z:ZG ((Be f a (A0 x)).bs.length=m.bs.length):=G (by
    rw[<-hl1.out];have az:=B7 x;have bg:=hl1.out;exact Ei _ _ _ _ (Hx _ _) (by have:=Hx f.cut (A0 x).length;omega))
   have N:=G (H.write a (A0 x));rw[B7]at N;have HW:=G i;clear i;rw[HW.out,Fe];generalize Be f a (A0 x)=m2 at q o A Z N;go_wp2_with fail;refine(M d ⟨#[165]⟩ m2 (k+1+16) wc A Z (by show d+1<=153;omega) N (by omega) o.out).mono ?_;rintro e w4 ⟨rfl,k4⟩;go_wp2_with fail;go_ret;rw[q.out];exact⟨rfl,k4.mem,k4.kp⟩
  ·obtain⟨e8,_⟩:=Ll i;rw[if_neg i,e8]at q;clear i;rw[e8,Py];go_wp2_with fail;go_ret;rw[q.out];exact⟨rfl,o.mem,o.kp⟩
 ·obtain⟨j,hj⟩:∃j,Fm m.off m.bs.length (d:Int) 1=j+1:=⟨_,(Nat.succ_pred_eq_of_pos (Nat.pos_of_ne_zero R)).symm⟩
  rw[if_neg R,hj]at n;have HJ:=G hj;clear R hj;go_wp2_with fail;refine(kH B g c rb _ cap m (d:Int) 1 j w1 l.mem l.se HJ.out).mono ?_;rintro e w' ⟨rfl,rfl⟩;rw[Py];go_wp2_with fail;go_ret;rw[n.out];exact⟨rfl,l.mem,l.kp⟩
def Ao(r:Ap):List ZE:=[I J r.seq,I J r.ent,I J r.kind,I J r.tick]
theorem Ty(r:Ap):(Ao r).length=4:=rfl
theorem Tryz.infoRec:(ZI.info? 147).map (fun i=>(i.zero,i.size,i.bytes))=U (U (.agg #[I J 0,I J 0,I J 0,I J 0]),4,32):=by kernel_rfl
theorem Ub(l:List Ap):∀u∈l.flatMap Ao,u.oneCell'=true:=Pi _ (by intro x u hu;simp[Ao]at hu;rcases hu with rfl|rfl|rfl|rfl<;>rfl) l
theorem Ot(l:List Ap):(l.flatMap Ao).length=l.length*4:=Hj Ao 4 Ty l
theorem Ns(R:Nat->Prop)(l:List Ap)(v:ZE)(w:V)(h:Av R w v 4 (l.flatMap Ao) l.length)(N:l.length<=1000):
  ZH ZI 95 #[v] w fun e w'=>∃ao cap,e=ZD (F ao l.length cap)/\w'.ownsRow w.heap.size 147 4 (F ao l.length cap) l.length (l.flatMap Ao)/\Below w.heap.size w w':=by
 obtain⟨M,s,A,B,C⟩:=info_parts infoRec;have P:∀(w:V) (a:Option Addr) (n c D g:Nat),(binOp .eql 68 (F a n c) (F O D g)).run ZI w=.ok (ZK a.isNone) w:=fun w a n c D g=>Lib.run_eql_slice_nil w _ _ a n c D g underlying68;obtain⟨ao,cap,rfl⟩:=h.val;rcases h.cases with⟨rfl,E,rfl,K⟩|⟨a,rfl⟩
 ·have t:l= []:=H3 E;subst t;clear h E K;go_enter func95,ntmps95;go_wp2_with fail;go_ret;exact⟨O,0,rfl,Zzr _ _ _ _,R1 _ _⟩
 ·obtain⟨h1,h2,h3⟩:=kS h;have i:ZG (∀j u,(l.flatMap Ao)[j]? =U u->∀o,(w.alloc o).cell? (a.add j)=U u):=fun j u y o=>by
   have:=h3 j u y;rw[Zy7 (w:=w) (Zyb _ _ _ (R3 _ _ this))];exact this
  have d:ZG (0+l.length<=maxLen):=by show 0+l.length<=maxLen;omega
  have p:ZG ((0+l.length)*32<=140737488355328):=by show(0+l.length)*32<=_;omega
  have m:ZG (∀o,w.heap.size<=(w.alloc o).heap.size):=fun o=>by simp
  clear h h2 h3;go_enter func95,ntmps95;go_wp2_with (at_builtin;refine Bc rfl (.tmp 5) (.tmp 6) 68 rfl w.heap.size 147 M _ 4 32 underlying68 s A B C rfl (by decide) _ 0 [] rfl (World.ownsRow_made w #[] 0 (Y2 _) (by decide) rfl) a l.length cap (l.flatMap Ao) rfl h1 (fun j u y=>i j u y _) (Ub l) d p (m _) ?_;intro H k1 Q f q);go_ret;rw[Zzt,Zyp]at f;refine⟨H,k1,rfl,f,?_⟩;exact((R1 _ _).alloc (Y2 _) _).grown q (by simp) (fun k L=>by have h:U w.heap.size=U k:=L;simp at h;omega)
structure tW (w:V) (rg c:Nat) (lv:ZE) (dead:Bool) (L:List Ap) (R:Nat->Prop):Prop where
 box:w.heap[rg]? =U (Io c lv dead)
 row:Av R w lv 4 (L.flatMap Ao) L.length
theorem W2(w:V)(rg c:Nat)(lv:ZE)(dead:Bool)(L:List Ap)(R:Nat->Prop)(h:tW w rg c lv dead L R)(g:L.length<=1000):
  ZH ZI 55 #[ZA (U ⟨rg,0,O⟩)] w fun e w'=>∃v,e=ZD v/\Av (fun b=>w.heap.size<=b) w' v 4 (L.flatMap Ao) L.length/\Below w.heap.size w w':=by
 obtain⟨j,l,m,rf⟩:=Ha h.box;have d:=G h.row;clear h;go_enter func55,ntmps55;go_wp2_with fail;refine(Ns R L lv w d g).mono ?_;rintro e w1 ⟨i,cap,rfl,a,b⟩;have f:=G (Ge a);clear a;go_wp2_with fail;go_ret;exact⟨_,rfl,f.out,b⟩
theorem K7{R:Nat->Prop}{w:V}{ao:Option Addr}{n cap:Nat}{l:List Ap}(h:Av R w (F ao n cap) 4 (l.flatMap Ao) l.length)(h0:0<l.length):
  ∃b off,ao=U ⟨b,off,O⟩/\R b/\b<w.heap.size/\∀k (hk:k<l.length),w.cell? ⟨b,off+k*4,O⟩=U (I J l[k].seq)/\w.cell? ⟨b,off+k*4+1,O⟩=U (I J l[k].ent)/\w.cell? ⟨b,off+k*4+2,O⟩=U (I J l[k].kind)/\w.cell? ⟨b,off+k*4+3,O⟩=U (I J l[k].tick):=by
 obtain⟨b,off,e,d,f,a⟩:=h.elem (fun _=>rfl) (by decide) h0;exact⟨b,off,e,d,f,fun k hk=>⟨a k hk 0 _ rfl,a k hk 1 _ rfl,a k hk 2 _ rfl,a k hk 3 _ rfl⟩⟩
theorem Eu{w:V}{b o:Nat}{cs:Array ZE}{t:TypeId}(h:w.heap[b]? =U (.cells cs t)):w.frozen? ⟨b,o,O⟩=false:=by simp[World.frozen?,h]
def Gd(L:List Ap):Ap:=L.getLast?.getD ⟨0,0,0,0⟩
theorem Tw(w:V)(rg c:Nat)(lv:ZE)(dead:Bool)(L:List Ap)(R:Nat->Prop)(h:tW w rg c lv dead L R)(Y:∀b,R b->b<w.heap.size)(Z:L.length<=1000):
  ZH ZI 190 #[ZA (U ⟨rg,0,O⟩)] w fun e w'=>e=ZD (ZM #[Aq (Gd L),ZK (!L.isEmpty)])/\Below w.heap.size w w':=by
 obtain⟨r0,S,r2,rf⟩:=Ha h.box;have n:=Aa h.box;have f:=h.row;obtain⟨T,cap,rfl⟩:=h.row.val;clear h;have a:Below w.heap.size w (w.alloc (D7 ⟨0,0,0,0⟩)):=(R1 _ _).alloc (Y2 _) _;have i:=Ab w (D7 ⟨0,0,0,0⟩);have m:∀o,(w.alloc (D7 ⟨0,0,0,0⟩)).frozen? ⟨w.heap.size,o,O⟩=false:=fun o=>Eu i;obtain⟨j,z1,z2,l⟩:=Ay i;have s1:=(a.cell (p:=⟨rg,1,O⟩) n).trans S;by_cases h0:L.length=0
 ·obtain rfl:=H3 h0;unfold D7 at a;clear j z1 z2 l i m s1;go_enter func190,ntmps190;go_wp2_with fail;refine bodyPost_ret (v:=ZM #[Aq ⟨0,0,0,0⟩,ZK false]) (by simp[Aq,results,results190,go_sem]) rfl ?_;exact⟨rfl,a⟩
 ·obtain⟨b,off,rfl,Q,g,B⟩:=K7 f (by omega);obtain⟨N,A⟩:∃N,N=L.length-1:=⟨_,rfl⟩
  have d:N<L.length:=by omega
  obtain⟨D,E,H,K⟩:=B N d;have q:=(a.cell (p:=⟨b,off+N*4,O⟩) g).trans D;have s:=(a.cell (p:=⟨b,off+N*4+1,O⟩) g).trans E;have t:=(a.cell (p:=⟨b,off+N*4+2,O⟩) g).trans H;have u:=(a.cell (p:=⟨b,off+N*4+3,O⟩) g).trans K;have y:ZG (Gd L=L[N]):=G (by
   unfold Gd;rw[Zyt,<-A,R4 d];rfl)
  have M:ZG (L.isEmpty=false):=G (by rw[List.isEmpty_eq_false_iff];intro e;rw[e]at h0;exact h0 rfl);have X:(L.length:Int)-1=(N:Int):=by omega
  have P:(N:Int)<L.length:=by omega
  unfold D7 at a q s t u s1 j z1 z2 l m;obtain⟨r,C⟩:∃r,r=L[N]:=⟨_,rfl⟩
  rw[<-C]at q s t u y;clear D E H K B A C i;go_enter func190,ntmps190;go_wp2_with fail;generalize w.alloc _=w1 at a q s t u s1 j z1 z2 l m ⊢;go_region;all_goals
   go_wp2_with fail;refine bodyPost_ret (v:=ZM #[Aq r,ZK true]) (by simp[Aq,results,results190,go_sem,j,z1,z2,l,O2,O1]) rfl ?_;rw[y.out,M.out];exact⟨rfl,((((a.setCell (p:=⟨w.heap.size,0,O⟩) (Y2 _) _).setCell (p:=⟨w.heap.size,1,O⟩) (Y2 _) _).setCell (p:=⟨w.heap.size,2,O⟩) (Y2 _) _).setCell (p:=⟨w.heap.size,3,O⟩) (Y2 _) _).drew⟩
theorem Acq(S:Nat->Prop)(w:V)(q:Nat):Ac S w (w.drewN q):=(Al (Ag q (R1 w.heap.size w))).mono (fun _ _ h=>h.elim)
theorem Aaq{w:V}{b a g f:Nat}{wh ex:Bool}{run:Int}(h:w.heap[b]? =U (Ij a g f wh ex run))(r:Int):(w.setCell ⟨b,5,O⟩ (I J r)).heap[b]? =U (Ij a g f wh ex r):=by
 unfold Ij at h ⊢;rw[Ah _ h];rfl
theorem Aar{w:V}{b a g f:Nat}{wh ex:Bool}{run:Int}(h:w.heap[b]? =U (Ij a g f wh ex run))(x:Bool):(w.setCell ⟨b,4,O⟩ (ZK x)).heap[b]? =U (Ij a g f wh x run):=by
 unfold Ij at h ⊢;rw[Ah _ h];rfl
theorem KAt.set5{s t e a g f:Nat}{i:Option Nat}{d lo hi:Nat}{E:Ak}{m:Di}{w0 w:V}(h:KAt s t e a g f i d lo hi E m w0 w)(r:Int):KAt s t e a g f i d lo hi E ⟨m.whole,m.exp,r,m.cnt,m.gs,m.gbad,m.pos,m.fbad⟩ w0 (w.setCell ⟨e,5,O⟩ (I J r)):=
 ⟨h.h.box' (Af w e 5 _) (Aaq h.h.box r),h.k.trans (h.h.own_w (Af w e 5 _))⟩
theorem KAt.set4{s t e a g f:Nat}{i:Option Nat}{d lo hi:Nat}{E:Ak}{m:Di}{w0 w:V}(h:KAt s t e a g f i d lo hi E m w0 w)(x:Bool):KAt s t e a g f i d lo hi E ⟨m.whole,x,m.run,m.cnt,m.gs,m.gbad,m.pos,m.fbad⟩ w0 (w.setCell ⟨e,4,O⟩ (ZK x)):=
 ⟨h.h.box' (Af w e 4 _) (Aar h.h.box x),h.k.trans (h.h.own_w (Af w e 4 _))⟩
theorem KAt.drewN{s t i a g f:Nat}{e:Option Nat}{d lo hi:Nat}{E:Ak}{m:Di}{w0 w:V}(h:KAt s t i a g f e d lo hi E m w0 w)(n:Nat):KAt s t i a g f e d lo hi E m w0 (w.drewN n):=
 ⟨h.h.keep (S:=fun _=>False) (Acq _ _ _) (fun _ _ _ h=>h),Ck n h.k⟩
theorem sG(l s t:Nat)(E:Ak)(vp vg ve vf vl:ZE)(m:Di)(w:V)(h:G5 l s t E vp vg ve vf vl m w)(az:0<=m.run)(a0:m.run<=1000000):
  ZH ZI 151 #[ZA (U ⟨l,0,O⟩)] w fun e w'=>e=ZD (ZM #[I J (Eb E m),ZK (Kj E m)])/\G5 l s t E vp vg ve vf vl (Du E m) w'/\Ac (fun b=>s<=b/\b<t) w w':=by
 obtain⟨⟨y,a,g,f,v,d,lo,hi,h1,h2⟩,ho⟩:=h;obtain⟨c0,c1,c2,T,X,Y,Z,c7,c8,c9,p,cf⟩:=D8 h1;have u:=G h1;have H2:=G h2;have n:=G ho;clear h1 h2 ho c1 c2 T X Y Z c7 c8 c9 p cf;go_enter func151,ntmps151;go_wp2_with fail;refine(gP s t y a g f v d lo hi E m w H2.out).mono ?_;rintro e w1 ⟨rfl,q,k1⟩;have Q:KAt s t y a g f v d lo hi E (Acb m) w w1:=⟨q,k1⟩
 have S:=(D8 (k1.get u n.out)).1;obtain⟨x0,x1,x2,x3,H,L,xf⟩:=G0 q.box;simp only[Acb]at L;have q2:=G (Q.set5 (m.run+1));have q3:=G ((Q.set5 (m.run+1)).set5 0);have A:=(D8 ((Q.set5 (m.run+1)).k.get u n.out)).1;clear q k1 Q x0 x1 x2 x3 H c0 H2;go_upto_if 25 with fail;go_cut [] (fun wx=>KAt s t y a g f v d lo hi E ⟨true,m.exp,Je E m,0,m.gs,false,m.pos,false⟩ w wx);case first=>
  by_cases i:Eb E m=0
  ·have hb:(Eb E m==0)=true:=by simp[i]
   have R:ZG (Je E m=0):=if_pos i;clear i;go_wp2_with fail;go_meet;rw[R.out];exact q3.out
  ·have hb:(Eb E m==0)=false:=by simp[i]
   have R:ZG (Je E m=m.run+1):=if_neg i;clear i;go_wp2_with fail;go_meet;rw[R.out];exact q2.out
 case rest=>
 have i:=hcut;clear hcut S A L xf q2 q3;obtain⟨c0,c1,c2,T,X,Y,Z,c7,c8,c9,p,cf⟩:=D8 (i.k.get u n.out);obtain⟨x0,x1,x2,x3,H,L,xf⟩:=G0 i.h.box;simp only at H L;have P:ZG (Kj E m=(decide (E.tol<Je E m)&& !m.exp)):=rfl;have M:ZG (Du E m=⟨true,m.exp||decide (E.tol<Je E m),Je E m,0,m.gs,false,m.pos,false⟩):=rfl;have N:=G i;clear i c1 T X Y Z c7 c8 c9 p cf x0 x1 x2 x3;generalize Je E m=r at N P M L;generalize B:Eb E m=K;have o:=G B;clear B;by_cases ht:E.tol<r
 ·cases C:m.exp
  ·rw[C]at H;go_wp2_with fail;go_quiet (fail);have y1:=N.drewN nq;have y2:=y1.set4 true;have j:=G y2;obtain⟨z0,z1,z2,z3,z4,z5,zf⟩:=G0 y1.h.box;simp only at z4 z5;have D:=G (y2.k.get u n.out);clear y1 y2 z0 z1 z2 z3 z5;go_wp2_with fail;go_ret2;rw[P.out,M.out,o.out,C,On ht];exact⟨rfl,⟨⟨y,a,g,f,v,d,lo,hi,D.out,j.h⟩,n.out⟩,j.k⟩
  ·rw[C]at H;go_wp2_with fail;go_quiet (fail);have j:=G (N.drewN nq);have D:=G (j.k.get u n.out);go_wp2_with fail;go_ret2;rw[P.out,M.out,o.out,C,On ht];refine⟨rfl,⟨⟨y,a,g,f,v,d,lo,hi,D.out,?_⟩,n.out⟩,j.k⟩;have:=j.h;rw[C]at this;exact this
 ·have af:decide (E.tol<r)=false:=N1 ht;go_wp2_with fail;go_quiet (fail);have j:=G (N.drewN nq);have D:=G (j.k.get u n.out);go_wp2_with fail;go_ret2;rw[P.out,M.out,o.out,af];refine⟨rfl,⟨⟨y,a,g,f,v,d,lo,hi,D.out,?_⟩,n.out⟩,j.k⟩;have:=j.h;rw[Bool.or_false];exact this
