import Derived.Test.YtikehilbmldadaaGreatDoorP37
import Derived.Test.YtikehilbmldadaaGreatDoorP42
import Derived.Test.YtikehilbmldadaaGreatDoorP27
set_option maxHeartbeats 4000000
set_option maxRecDepth 100000
set_option linter.unusedVariables false
namespace Go.Proofs.YtikehilbmldadaaGreatDoor
open Proofs.Tryz YtikehilbmldadaaGreatDoor.Tryz RowKit
open Go renaming World->V,Value->ZE,RowKit.Below->ZF,Calls->ZH,Value.int->I,IntKind.i64->J,Value.slice->F,Value.pointer->ZA,Obj.cells->ZC,Ending.returned->ZD,Value.bool->ZK,Proofs.Tryz.prog->ZI
open Option renaming some->U,none->O
theorem vP(l:List UInt8):(⟨l.toArray⟩:ByteArray).size=l.length:=by simp[ByteArray.size]
def Vn(kb d c rb a b:Nat):Nat->Nat:=fun k=>if k=kb then 1 else if k=d then 2 else if k=c then 3 else if k=rb then 4 else if a<=k/\k<b then 8 else 0
theorem Alp{B:Nat}{S:Nat->Addr}{w0 w w2 w3 s a:V}{c rb cap:Nat}{C:Ar}{v:ZE}{X:List A2}{m:CM}{kb d:Nat}{D:Dd}
  (hS:Fs B S w) (bel:ZF w0.heap.size w0 w) (hB:B<=w0.heap.size) (A:A7 w c rb (U ⟨rb,0,O⟩) cap m) (hc:w0.heap.size<=c/\w0.heap.size<=rb)
  (Y:ZF w.heap.size w w2) (N:Gb (fun b=>w2.heap.size<=b/\b<w3.heap.size) w3 C v X) (Z:ZF w2.heap.size w2 w3) (Q:Ac (fun b=>b<w2.heap.size) w3 s) (H:ZF w.heap.size w s) (P:D4 a d D) (af:s.heap.size<=d) (E:ZF s.heap.size s a)
  (o:Obj) (hk:kb=a.heap.size):
  KpB B S w0 kb c ⟨d,rb,cap,0,0,v,v,v,X,[]⟩ C D m (Vn kb d c rb w2.heap.size w3.heap.size) (a.alloc o)/\ZF w.heap.size w (a.alloc o):=by
 have ae:=Aa A.box;have ai:rb<w.heap.size:=by
  obtain⟨C,t,hh,_⟩:=A.row rfl;exact Aa hh
 have ag:=Aa P;have s0:=bel.size;have s2:=Y.size;have s3:=Z.size;have s4:=Q.size;have s5:=E.size;have hne:=A.ne;have j:ZF a.heap.size a (a.alloc o):=(R1 _ _).alloc (Y2 _) _;have u:ZF w.heap.size w a:=H.trans (E.mono H.size);have i:ZF w.heap.size w (a.alloc o):=u.trans (j.mono u.size);have aj:(a.alloc o).heap.size=a.heap.size+1:=H7 _ _;have n1:Vn kb d c rb w2.heap.size w3.heap.size kb=1:=if_pos rfl;have n2:Vn kb d c rb w2.heap.size w3.heap.size d=2:=by unfold Vn;rw[if_neg (by omega),if_pos rfl]
 have n3:Vn kb d c rb w2.heap.size w3.heap.size c=3:=by unfold Vn;rw[if_neg (by omega),if_neg (by omega),if_pos rfl]
 have n4:Vn kb d c rb w2.heap.size w3.heap.size rb=4:=by unfold Vn;rw[if_neg (by omega),if_neg (by omega),if_neg (by omega),if_pos rfl]
 refine⟨⟨hS.below i,bel.trans (i.mono s0),hB,fun b y=>?_,(Al j).get P (fun h=>h),A.keep (Al i) (fun _ h=>h.elim),?_,N.eq,n1,n2,n3,n4⟩,i⟩
 ·unfold Vn at y;repeat' split at y
  all_goals omega
 ·have e4:F0 (fun b=>w2.heap.size<=b/\b<w3.heap.size) s v X:=N.sl.keep Q (fun b h1 h2=>by omega);have e5:F0 (fun b=>w2.heap.size<=b/\b<w3.heap.size) a v X:=e4.keep (Ac.of_below E) (fun b h1 h2=>by omega);have L:F0 (fun b=>w2.heap.size<=b/\b<w3.heap.size) (a.alloc o) v X:=e5.keep (Ac.of_below j) (fun b h1 h2=>by omega);have q:∀b,(w2.heap.size<=b/\b<w3.heap.size)->Vn kb d c rb w2.heap.size w3.heap.size b=8:=fun b y=>by
   unfold Vn;rw[if_neg (by omega),if_neg (by omega),if_neg (by omega),if_neg (by omega),if_pos y]
  exact⟨L.row.mono q,fun x hx=>by have:=L.each x hx;exact⟨this.p.mono q,this.g.mono q,this.e.mono q,this.f.mono q,this.l.mono q⟩⟩
theorem Ahm{w:V}{b:Nat}{C C':Ar}{v v':ZE}(h:w.heap[b]? =U (ZC (Az C v) 30)):
  (((((w.setCell ⟨b,0,O⟩ (I J C'.closed)).setCell ⟨b,1,O⟩ (I J C'.opn)).setCell ⟨b,2,O⟩ (I J C'.cycle)).setCell ⟨b,3,O⟩ (I J C'.delay)).setCell ⟨b,4,O⟩ v').heap[b]? =U (ZC (Az C' v') 30):=by
 unfold Az at h ⊢;rw[Ah _ (Ah _ (Ah _ (Ah _ (Ah _ h))))];rfl
theorem Ago(B:Nat)(sa:Nat->Addr)(R:Nat->Prop)(C:Ar)(v:ZE)(X:List A2)(w0 w:V)(c rb cap:Nat)(m:CM)(hS:Fs B sa w)(hN:U3 B w)(hT:L9 w.heap.size w)(h:Gb R w C v X)(hR:∀b,R b->b<w.heap.size)(hC:B4 C=(0,-1))(h8:(C4 C).length<=8000)
  (bel:ZF w0.heap.size w0 w) (hB:B<=w0.heap.size) (hm:A7 w c rb (U ⟨rb,0,O⟩) cap m) (hc:w0.heap.size<=c/\w0.heap.size<=rb) (hl:153<=m.bs.length) (ho:m.off=false):
  ZH ZI 38 #[.agg (Az C v),ZA (U ⟨c,0,O⟩)] w fun e w'=>∃kb x o,e=ZD (.tuple #[ZA (U ⟨kb,0,O⟩),.nilIface])/\Bq B sa w0 kb c ⟨(C4 C).toArray⟩ x (Hb C ⟨C.closed,C.opn,0,0,false,0⟩ m) o w'/\(∀b,b<w.heap.size->o b≠0->b=c\/b=rb)/\Ac (fun b=>b=c\/b=rb) w w':=by
 obtain⟨ao,d,rfl⟩:=h.sl.row.val;have j:=Er (Cv hC).1;have H:=Ab w (ZC (Az C (F ao X.length d)) 30);have g:ZF w.heap.size w (w.alloc (ZC (Az C (F ao X.length d)) 30)):=(R1 _ _).alloc (Y2 _) _;have y:=G (fun W (L:ZF w.heap.size w W)=>vH B sa R C (F ao X.length d) X W (hS.below L).c (fun W' a7=>hT W' (L.trans (a7.mono L.size))) (h.below L hR) (fun b j=>F5 (hR b j) L.size) hC);have HS:=G hS;have HN:=G hN;have HC:=G hC;have br:=G h8;have Z:=G (And.intro hm (And.intro hc (And.intro hl (And.intro ho (And.intro bel hB)))));obtain⟨Y,i⟩:∃Y:ByteArray,Y=⟨(C4 C).toArray⟩:=⟨_,rfl⟩
 have ba:Y.size=(C4 C).length:=by rw[i,vP]
 have P:=G (fun W (L:ZF w.heap.size w W)=>wL B sa Y W (hS.below L).c (hN.below L hS.top) (by omega) (fun k hk _=>Aci hC k (by rw[<-i];exact hk)));have af:Hh Y=(C,(0,-1)):=by rw[i];exact Zs hC (by omega)
 rw[af]at P;rw[<-i]at y ⊢;have bv:=G i;have ax:=G (fun W=>Ahf C.closed C.opn W (by omega) (by omega) (by omega) (by omega));clear hS hN hT h hR hC h8 bel hB hm hc hl ho j ba af i;unfold Az at H g y ⊢;go_enter func38,ntmps38;go_upto_region 1 with fail;generalize w.alloc _=w1 at H g ⊢;have p:w1.heap[w.heap.size]? =U (ZC (Az C (F ao X.length d)) 30):=H;obtain⟨c0,c1,c2,c3,c4⟩:=Ba p;have Q:=G p;clear H p;go_wp2_with fail;refine(y w1 g).mono ?_;rintro e w2 ⟨rfl,b2⟩;have A:=G (Ae b2 Q (Aa Q.out));have l:=G (g.trans (b2.mono g.size));have ay:=G (Aa A.out);clear c0 c1 c2 c3 c4 y Q g b2;go_wp2_with fail;refine(P w2 l.out).mono ?_;unfold Rj;rintro e w3 ⟨a9,n9,k9,u,X9,rfl,hu,ah,-,b9⟩;have bb:u=.nilIface:=by
  rcases hu with⟨_,hu⟩|⟨_,a8,_⟩
  ·rw[hu];rfl
  ·exact absurd a8 (Nat.lt_irrefl 0)
 subst bb;have aw:=G (ah rfl);have E:=Ae b9 A (Aa A.out);obtain⟨c0,c1,c2,c3,c4⟩:=Ba E;have cf:∀f,w3.frozen? ⟨w.heap.size,f,O⟩=false:=fun f=>by simp[World.frozen?,E]
 have a:=G (Ahm (C':=C) (v':=F a9 n9 k9) E);have q:=G (Mm w3 w.heap.size (I J C.closed) (I J C.opn) (I J C.cycle) (I J C.delay) (F a9 n9 k9));have ab:=G b9;clear hu ah b9 E P;unfold Az;go_upto_region 5 with fail;generalize World.setCell _ _ _=w4 at a q ⊢;have a:Hid (w4.heap[w.heap.size]? =U (ZC (Az C (F a9 n9 k9)) 30)):=a;obtain⟨d0,d1,d2,d3,d4⟩:=Ba a.out;clear c0 c1 c2 c3 c4 cf A;go_wp2_with fail;refine(ax w4).mono ?_;rintro e w5 ⟨rfl,g5,b5⟩;have al:=Ae b5 a (Aa a.out);obtain⟨e0,e1,e2,e3,e4⟩:=Ba al;have ac:=G g5;have N:=G b5;clear d0 d1 d2 d3 d4 al g5 b5 a;go_upto_region 11 with fail;have S:=l.trans (ab.mono l.size);have D:=S.trans (q.below S.size (fun b j=>Nat.le_of_eq j.symm));obtain⟨p1,p2⟩:=Alp HS Z.2.2.2.2.1 Z.2.2.2.2.2 Z.1 Z.2.1 l aw ab (q.mono (fun b _ e=>by rw[e];exact ay.out)) D ac (Y2 _) N (kpC w4.heap.size C (F a9 n9 k9) c (ZA O) (F O 0 0) (ZA O) Y) rfl;have ag:=Ab w5 (kpC w4.heap.size C (F a9 n9 k9) c (ZA O) (F O 0 0) (ZA O) Y);have s:=G (Yr p1 ag (Cv HC.out).1 Z.2.2.1 Z.2.2.2.1);have hz:w.heap.size<=w2.heap.size:=l.size;have am:w.heap.size<=w5.heap.size:=No D.size N.size;have t:=G p2;have HZ:=G (And.intro hz (And.intro am D.size));unfold kpC at s t;clear S D p1 p2 ag hz am e0 e1 e2 e3 e4 a q ac N;generalize w5.alloc _=w6 at s t ⊢;go_wp2_with fail;refine s.mono ?_;rintro e w7 ⟨rfl,x',o',z1,z2⟩;have hz:=HZ.out;have Z1:=G z1;have ai:Ac (fun b=>b=c\/b=rb) w w7:=((Al t.out).mono (fun _ _ h=>h.elim)).step z2.kp (fun b j hl=>by
  unfold Vn at j;repeat' split at j
  all_goals omega)
 have ak:∀b,b<w.heap.size->o' b≠0->b=c\/b=rb:=fun b hl j=>by
  rw[z2.agree b (F5 hl t.size)]at j;unfold Vn at j;repeat' split at j
  all_goals omega
 have HK:=G (And.intro ak ai);clear z1 z2 ai ak hz s;go_wp2_with fail;go_ret2;exact⟨_,x',o',rfl,Z1.out,HK.1,HK.2⟩
section
variable {C:Ar} {M:KpM} {n:Nat}
end
def blank:CM:=⟨List.replicate 4096 0,false,-1,0⟩
theorem Mn:blank.bs.length=4096:=by show(List.replicate 4096 (0:UInt8)).length=_;rw[Zxy]
theorem Aec:Fg blank.bs= []:=Afy 4096 (by decide)
theorem Ahs:O5 blank.bs []:=pE 4096 (by decide)
theorem Zo(w:V):ZH ZI 37 #[I J 4096] w fun e w'=>∃c rb cap,e=ZD (.tuple #[ZA (U ⟨c,0,O⟩),.nilIface])/\A7 w' c rb (U ⟨rb,0,O⟩) cap blank/\(w.heap.size<=c/\w.heap.size<=rb)/\ZF w.heap.size w w':=by
 refine(Aae 4096 w (Y2 _)).mono ?_;rintro e w' ⟨rfl,h1,h2⟩;exact⟨_,_,_,rfl,h1,⟨by omega,Y2 _⟩,h2⟩
def Adm(C:Ar):Dd:=⟨C.closed,C.opn,0,0,false,0⟩
def Ja(C:Ar):ByteArray:=⟨(C4 C).toArray⟩
def kp0(C:Ar):KpM:=Hb C (Adm C) blank
theorem Aj2{C:Ar}(d:B4 C=(0,-1)):Bn (kp0 C) 0:=by
 have a:=Er (Cv d).1;refine pW (Cv d).1 (fun E e=>Ac8 (Rx d E e)) ⟨a.1,a.2.1,a.2.2.1,a.2.2.2.1,?_,?_,?_,?_,?_⟩ ?_ ?_ ⟨Xj.1,Xj.2,?_,?_⟩ Mn Ahs ?_ ?_;all_goals(first|exact Int.le_refl (0:Int)|(show(0:Int)<=(1099511627776:Int);omega)|(show(0:Int)<=(1000000:Int);omega)|(show(0:Nat)<=_;omega)|decide)
theorem Tryz.fieldCode(a b:Int)(W:V):(Instr.field 32 (.agg #[I J a,I J b]) 0).run ZI W=.ok (I J a) W:=by kernel_rfl
section
variable {w0:V} {kb:Nat} {x:DkX} {M:KpM} {R:List Bl} {o:Nat->Nat} {w:V} {T K:Nat}
theorem Adq(h:Bx w0 kb x M R o w)(L:Bn M T)(hR:Hd R K T):
  ZH ZI 66 #[ZA (U ⟨kb,0,O⟩)] w (Ga w0 kb (Lx M) K T o w):=by
 unfold Ga;have i:=G (M8 h);have H:=G h;have ad:=G hR;obtain⟨k0,k1,N,P,Q,S,X,Y,Z,k9,kf⟩:=Cf h.box;unfold Lx;by_cases h0:Hs M=0
 ·rw[h0]at i;rw[if_pos h0];clear h L hR h0 k0 k1 N P Q S X Y Z k9 kf;go_enter func66,ntmps66;go_wp2_with fail;refine i.mono ?_;rintro e w1 ⟨rfl,rfl⟩;go_wp2_with fail;go_ret;exact⟨rfl,x,R,o,H.out,ad.out,Fr.refl _ _⟩
 ·rw[if_neg h0];have ah:((Hs M:Int)==0)=false:=by rw[Zzg];omega
  obtain⟨left,u,B⟩:=h.mem;have p:=G (Alm x.n M.m left u w B);have HK:=G (fun w1 (k:Ac (· =x.n) w w1) (g:Gr w1 x.n ⟨M.m.bs,false,-1,M.m.wr⟩ left false)=>h.cell' k ⟨left,false,g⟩);have A:=L.len;have v:=L.bound;have t:=G (fun w1 (z:Bx w0 kb x { M with m:=⟨M.m.bs,false,-1,M.m.wr⟩} R o w1)=>Zh z.b z.box v (by show 153<=M.m.bs.length;omega));obtain⟨E,l⟩:∃E,E=Fg M.m.bs:=⟨_,rfl⟩
  have e1:=Vs M.C M.D ⟨M.m.bs,false,-1,M.m.wr⟩ l;rw[Vs M.C (Ox M.D) ⟨M.m.bs,false,-1,M.m.wr⟩ l];have s:Hid (∀w1,Bx w0 kb x { M with m:=⟨M.m.bs,false,-1,M.m.wr⟩} R o w1->ZH ZI 61 #[ZA (U ⟨kb,0,O⟩)] w1 fun e w'=>e=ZD (.tuple #[])/\∃a j,Bx w0 kb a ⟨M.C,M.D,⟨M.m.bs,false,-1,M.m.wr⟩,E,false,List.replicate M.C.ents.length O,0,.ok⟩ (List.replicate M.C.ents.length Jz) j w'/\Fr o j w1 w'):=(show _ from fun w1 z=>(t w1 z).mono (fun e w' hh=>by
   obtain⟨g1,a,j,-,-,g2,g3⟩:=hh;rw[show({ M with m:=⟨M.m.bs,false,-1,M.m.wr⟩}:KpM).C=M.C from rfl,show({ M with m:=⟨M.m.bs,false,-1,M.m.wr⟩}:KpM).D=M.D from rfl,show({ M with m:=⟨M.m.bs,false,-1,M.m.wr⟩}:KpM).m=⟨M.m.bs,false,-1,M.m.wr⟩ from rfl,e1]at g2;exact⟨g1,a,j,g2,g3⟩))
  generalize Hs M=q at i ah;clear h L hR h0 k0 k1 N P Q X Y Z k9 kf B A v l e1 t;go_enter func66,ntmps66;go_wp2_with fail;refine i.mono ?_;rintro e w1 ⟨rfl,rfl⟩;go_wp2_with fail;refine p.mono ?_;rintro e w1 ⟨rfl,g1,g2⟩;obtain⟨z1,z2⟩:=HK w1 g2 g1;have HOpn:=G (s w1 z1);have HF:=G z2;clear g1 g2 z1 z2 S HK p s;go_wp2_with fail;refine HOpn.mono ?_;rintro e w2 ⟨rfl,a,j,z1,z2⟩;have HZ:=G z1;have ac:=G (HF.trans z2);obtain⟨k0,k1,N,P,Q,S,X,Y,Z,k9,kf⟩:=Cf z1.box;obtain⟨d0,d1,d2,d3,d4,d5,df⟩:=D5 z1.dog;have ag:¬a.d=kb:=fun e=>by have h1:=z1.od;have h2:=z1.ok;rw[e]at h1;omega
  have ao:¬kb=a.d:=fun e=>ag e.symm;have z3:=z1.dog' (Af w2 a.d 5 (ZK false)) (Dc.set5 z1.dog false);have f:=G z3;clear z1 z2 z3 k0 k1 N P Q S Y Z k9 kf HOpn HF;go_upto_region 6 with fail;have af:(w2.setCell ⟨a.d,5,O⟩ (ZK false)).cell? ⟨kb,6,O⟩=U (ZA (U ⟨a.d,0,O⟩)):=by
   obtain⟨_,_,_,_,_,_,v6,_⟩:=Cf f.1.box;exact v6
  obtain⟨b0,b1,b2,b3,b4,b5,bf⟩:=D5 f.1.dog;clear X d0 d1 d2 d3 d4 d5 df b0 b1 b4 b5;generalize w2.setCell _ _=w3 at f af b2 b3 bf ⊢;have HFin:Hid (∀W,ZF (w3.setCell ⟨a.d,3,O⟩ (I J M.D.now)).heap.size (w3.setCell ⟨a.d,3,O⟩ (I J M.D.now)) W->Bx w0 kb a ⟨M.C,Ox M.D,⟨M.m.bs,false,-1,M.m.wr⟩,E,false,List.replicate M.C.ents.length O,0,.ok⟩ (List.replicate M.C.ents.length Jz) j W/\Fr o j w W):=(show _ from by
   intro W hW;have y:=f.1;have y2:=y.dog' (Af w3 a.d 3 (I J M.D.now)) (Dc.set3 y.dog M.D.now);exact⟨y2.1.below hW,ac.trans (f.2.trans (y2.2.trans (Fr.below j hW)))⟩)
  go_region;all_goals
   go_wp2_with fail;go_ret;refine⟨rfl,a,_,j,(HFin _ ?_).1,pD _ _ _,(HFin _ ?_).2⟩<;>(repeat(first|exact R1 _ _|refine H5 ?_))
end
theorem Ahg(C:Ar)(ve:ZE)(X:List A2)(m:CM)(n:Nat)(w0 w:V)(A:ZF w0.heap.size w0 w)(B:RC w n m)(Q:w0.heap.size<=n)(N:F0 (fun b=>b<w0.heap.size) w ve X)(xe:C.ents=X.map A2.E):
  ∃o,DkB w0 (w.heap.size+2) n (w.heap.size+1) ve X C (Adm C) m o (((w.alloc (ZC #[I J C.closed,I J C.opn,I J C.cycle,I J C.delay,ve] 30)).alloc (ZC #[I J C.closed,I J C.opn,I J 0,I J 0,I J 0,ZK false] 131)).alloc (ZC #[I J C.closed,I J C.opn,I J C.cycle,I J C.delay,ve,ZA (U ⟨n,0,O⟩),ZA (U ⟨w.heap.size+1,0,O⟩),ZA O,F O 0 0,ZA O] 136))/\
   (((w.alloc (ZC #[I J C.closed,I J C.opn,I J C.cycle,I J C.delay,ve] 30)).alloc (ZC #[I J C.closed,I J C.opn,I J 0,I J 0,I J 0,ZK false] 131)).alloc (ZC #[I J C.closed,I J C.opn,I J C.cycle,I J C.delay,ve,ZA (U ⟨n,0,O⟩),ZA (U ⟨w.heap.size+1,0,O⟩),ZA O,F O 0 0,ZA O] 136)).heap[w.heap.size+2]? =U (Vw C ve n (w.heap.size+1) (ZA O) (F O 0 0) (ZA O))/\
   Fr (fun b=>if b=n then 3 else 0) o w (((w.alloc (ZC #[I J C.closed,I J C.opn,I J C.cycle,I J C.delay,ve] 30)).alloc (ZC #[I J C.closed,I J C.opn,I J 0,I J 0,I J 0,ZK false] 131)).alloc (ZC #[I J C.closed,I J C.opn,I J C.cycle,I J C.delay,ve,ZA (U ⟨n,0,O⟩),ZA (U ⟨w.heap.size+1,0,O⟩),ZA O,F O 0 0,ZA O] 136)):=by
 obtain⟨w1,g⟩:∃w1,w1=w.alloc (ZC #[I J C.closed,I J C.opn,I J C.cycle,I J C.delay,ve] 30):=⟨_,rfl⟩
 have q:w1.heap.size=w.heap.size+1:=by rw[g,H7]
 have l:ZF w.heap.size w w1:=by rw[g];exact(R1 _ _).alloc (Y2 _) _
 rw[<-g];have e:=Ab w1 (ZC #[I J C.closed,I J C.opn,I J 0,I J 0,I J 0,ZK false] 131);obtain⟨a,i⟩:∃a,a=w1.alloc (ZC #[I J C.closed,I J C.opn,I J 0,I J 0,I J 0,ZK false] 131):=⟨_,rfl⟩
 have s:a.heap.size=w.heap.size+2:=by rw[i,H7,q]
 have v:ZF w1.heap.size w1 a:=by rw[i];exact(R1 _ _).alloc (Y2 _) _
 rw[<-i]at e ⊢;rw[q]at e;have f:=Ab a (ZC #[I J C.closed,I J C.opn,I J C.cycle,I J C.delay,ve,ZA (U ⟨n,0,O⟩),ZA (U ⟨w.heap.size+1,0,O⟩),ZA O,F O 0 0,ZA O] 136);obtain⟨t,j⟩:∃t,t=a.alloc (ZC #[I J C.closed,I J C.opn,I J C.cycle,I J C.delay,ve,ZA (U ⟨n,0,O⟩),ZA (U ⟨w.heap.size+1,0,O⟩),ZA O,F O 0 0,ZA O] 136):=⟨_,rfl⟩
 have S:t.heap.size=w.heap.size+3:=by rw[j,H7,s]
 have p:ZF a.heap.size a t:=by rw[j];exact(R1 _ _).alloc (Y2 _) _
 rw[<-j]at f ⊢;rw[s]at f;have u:ZF w.heap.size w t:=(l.trans (v.mono l.size)).trans (p.mono (by omega));have P:=B.lt;have y:=A.size;refine⟨fun b=>if b=w.heap.size+2 then 1 else if b=w.heap.size+1 then 2 else if b=n then 3 else 0,⟨A.trans (u.mono y),fun b d=>?_,Ae p e (by omega),B.keep (Al u) (fun h=>h),N.keep (Al u) (fun _ _ h=>h),xe,if_pos rfl,?_,?_⟩,f,⟨(Al u).mono (fun _ _ h=>h.elim),fun b d=>?_⟩⟩
 ·by_cases D:b=w.heap.size+2
  ·omega
  ·by_cases H:b=w.heap.size+1
   ·omega
   ·by_cases L:b=n
    ·omega
    ·simp only[D,H,L,if_false]at d;exact absurd rfl d
 ·show(if w.heap.size+1=w.heap.size+2 then 1 else if w.heap.size+1=w.heap.size+1 then 2 else _)=2
  rw[if_neg (by omega),if_pos rfl]
 ·show(if n=w.heap.size+2 then 1 else if n=w.heap.size+1 then 2 else if n=n then 3 else 0)=3
  rw[if_neg (by omega),if_neg (by omega),if_pos rfl]
 ·show(if b=w.heap.size+2 then 1 else if b=w.heap.size+1 then 2 else _)=_
  rw[if_neg (by omega),if_neg (by omega)]
theorem Ahh(C:Ar)(ve:ZE)(X:List A2)(m:CM)(n:Nat)(w0 w:V)(u:ZF w0.heap.size w0 w)(y:RC w n m)(j:w0.heap.size<=n)(l:F0 (fun b=>b<w0.heap.size) w ve X)(xe:C.ents=X.map A2.E)(f:Es C=false)(v:153<=m.bs.length):
  ZH ZI 34 #[.agg (Az C ve),ZA (U ⟨n,0,O⟩)] w fun e w'=>∃kb x o,e=ZD (ZA (U ⟨kb,0,O⟩))/\Bx w0 kb x (Hb C (Adm C) m) (List.replicate C.ents.length Jz) o w'/\Fr (fun b=>if b=n then 3 else 0) o w w':=by
 obtain⟨A,cap,p⟩:=l.row.val;subst p;obtain⟨o,s,g,i⟩:=Ahg C (F A X.length cap) X m n w0 w u y j l xe;have a:=G (Zh s g f v);have d:=G i;unfold Az;clear u y j l xe f v s g i;obtain⟨N,t⟩:∃N,N=Hb C (Adm C) m:=⟨_,rfl⟩
 rw[<-t]at a ⊢;clear t;go_enter func34,ntmps34;go_wp2_with fail;refine a.mono ?_;rintro e H ⟨rfl,D,B,-,-,z1,z2⟩;have q:=G (And.intro z1 (d.trans z2));clear z1 z2 a d;go_wp2_with fail;go_ret;exact⟨_,D,B,rfl,q.1,q.2⟩
