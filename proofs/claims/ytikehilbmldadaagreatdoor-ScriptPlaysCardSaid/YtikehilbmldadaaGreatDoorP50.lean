import Derived.Test.YtikehilbmldadaaGreatDoorP37
import Derived.Test.YtikehilbmldadaaGreatDoorP42
set_option maxHeartbeats 8000000
set_option maxRecDepth 100000
set_option linter.unusedVariables false
namespace Go.Proofs.YtikehilbmldadaaGreatDoor
open Proofs.Tryz YtikehilbmldadaaGreatDoor.Tryz RowKit
open Go renaming World->V,Value->ZE,RowKit.Below->ZF,Calls->ZH,Value.int->I,IntKind.i64->J,Value.slice->F,Value.pointer->ZA,Value.string->ZB,Obj.cells->ZC,Proofs.Tryz.prog->ZI
open Option renaming some->U,none->O
theorem Aeh(w:V):(zeroValue 163).run ZI w=.ok (.agg #[I J 0,.nilFunc]) w:=by kernel_rfl
structure PlC (w1 W:V) (mb:Nat) (b:Nat->Nat) (w2:V):Prop where
 map:w2.heap[mb]? =U (Jk (Nk b))
 box:∀k,k<7->w2.heap[b k]? =U (ZC #[fnV (rG.getD k 0)] 220)
 bel:ZF W.heap.size W w2
 bl1:ZF w1.heap.size w1 w2
theorem PlC.old{w1 W:V}{mb:Nat}{b:Nat->Nat}{w2:V}(h:PlC w1 W mb b w2)(q:Nat)(y:Obj)(hy:W.heap[q]? =U y):w2.heap[q]? =U y:=Ae h.bel hy (Aa hy)
theorem PlC.cell{w1 W:V}{d:Nat}{b:Nat->Nat}{w2:V}(h:PlC w1 W d b w2){q:Nat}{v:ZE}(a:w1.cell? ⟨q,0,O⟩=U v):w2.cell? ⟨q,0,O⟩=U v:=by
 rw[h.bl1.cell (p:=⟨q,0,O⟩) (R3 w1 ⟨q,0,O⟩ a)];exact a
theorem Aem(w1 W:V)(a:ZF w1.heap.size w1 W):ZH ZI 76 #[] W fun e w'=>∃mb b,e=.returned (.map (U mb))/\PlC w1 W mb b w':=by
 refine(tN W).mono ?_;rintro e w' ⟨b,rfl,h1,h2,h3⟩;exact⟨_,b,rfl,h1,h2,h3,a.trans (h3.mono a.size)⟩
theorem Vz{w:V}{q:Nat}{u v:ZE}(h:w.heap[q]? =U (ZC #[u,v] 163)):w.cell? ⟨q,0,O⟩=U u/\w.cell? ⟨q,1,O⟩=U v/\∀k,w.frozen? ⟨q,k,O⟩=false:=by
 simp[World.cell?,World.frozen?,h]
structure PlD (w1:V) (m:Int) (fv:ZE) (b:Nat->Nat) (cb:Nat) (w3:V):Prop where
 c:w3.heap[cb]? =U (ZC #[I J m,fv] 163)
 box:∀k,k<7->w3.heap[b k]? =U (ZC #[fnV (rG.getD k 0)] 220)
 bel:ZF w1.heap.size w1 w3
 lo:w1.heap.size<=cb
theorem PlC.after{w1 W w2:V}{e:Nat}{b:Nat->Nat}(h:PlC w1 W e b w2)(m:Int)(a:ZE):PlD w1 m a b w2.heap.size (w2.alloc (ZC #[I J m,a] 163)):=
 ⟨Ab _ _,fun k d=>Bp _ (h.box k d),h.bl1.alloc h.bl1.size _,h.bl1.size⟩
theorem PlC.ahead{w1 W w2:V}{i:Nat}{b:Nat->Nat}(h:PlC w1 W i b w2)(m:Int)(d u v:ZE)(f:w2.heap[w1.heap.size]? =U (ZC #[u,v] 163))(l:u=I J 0):PlD w1 m d b w1.heap.size ((w2.setCell ⟨w1.heap.size,0,O⟩ (I J m)).setCell ⟨w1.heap.size,1,O⟩ d):=by
 have k:=(Af w2 w1.heap.size 0 (I J m)).setCell (p:=⟨w1.heap.size,1,O⟩) (fun _=>rfl) d;refine⟨by rw[Ah _ (Ah _ f)];rfl,fun j g=>k.get (h.box j g) (fun e=>?_),h.bl1.trans (k.below h.bl1.size (fun b a=>by rw[a];exact Y2 _)),Y2 _⟩;have a:=h.box j g;rw[show b j=w1.heap.size from e,f]at a;injection a with a;injection a with h1 h2 h3;have:=congrArg Array.size h1;simp at this
structure PlL (wc:V) (i:Nat) (r:List ByteArray) (k:Nat) (ns:List Nat) (v:ZE) (wr:V):Prop where
 pre:pA i r k ns
 own:wr.ownsRow wc.heap.size 3 1 v k (Ad (ns.map fun n:Nat=>(n:Int)))
 bel:ZF wc.heap.size wc wr
theorem PlL.below{wc wr w':V}{i k:Nat}{r:List ByteArray}{ns:List Nat}{v:ZE}(h:PlL wc i r k ns v wr)(b:ZF wr.heap.size wr w'):PlL wc i r k ns v w':=
 ⟨h.pre,Ff h.own (Al b) (fun _ _ _ h=>h),h.bel.trans (b.mono h.bel.size)⟩
theorem PlL.next{wc wz W w':V}{i k n:Nat}{r:List ByteArray}{ns:List Nat}{v v':ZE}(h:PlL wc i r k ns v wz)(f:k<r.length)(g:Gu r[k]=U n)(d:¬(k=0/\i≠3/\i≠4/\9<n))(a:ZF wz.heap.size wz W)(j:w'.ownsRow wc.heap.size 3 1 v' (k+1) (Ad (ns.map fun n:Nat=>(n:Int))++Ad [(n:Int)]))(l:W.grownBy w' v.ownBlock):PlL wc i r (k+1) (ns++ [n]) v' w':=by
 have h2:=h.below a;have m:Ac (fun b=>U b=v.ownBlock) W w':=Ac.of_grown l;refine⟨Aa4 h.pre f g d,?_,h2.bel.trans (m.below h2.bel.size (fun b a=>(h2.own.lt b a.symm).1))⟩;rw[B0];have e:Ad (ns.map (fun n:Nat=>(n:Int))++ [n].map (fun n:Nat=>(n:Int)))=Ad (ns.map fun n:Nat=>(n:Int))++Ad [(n:Int)]:=by simp[Ad]
 rw[e];exact j
section
variable {B:Nat} {sa:Nat->Addr} {w0:V} {kb c pb:Nat} {txt:ByteArray} {x:KpX} {M:KpM} {o:Nat->Nat} {w:V} {T:Nat}
theorem Af7(line:ByteArray)(h:Bq B sa w0 kb c txt x M o w)(A:line.size<=100000){t:ByteArray}{r:List ByteArray}(a:Cx 32 line=t::r)(hi:C8 t=O):
  ZH ZI 39 #[ZA (U ⟨pb,0,O⟩),ZB line] w (Gs B sa w0 kb c txt (E9 txt M line) o w):=by
 have g:=G (Rn line 32 w (by omega));have d:(Cx 32 line).length=r.length+1:=by rw[a];rfl
 rw[d,a]at g;have v:=G (fun(w1 W:V) (hW:ZF w1.heap.size w1 W)=>Aem w1 W hW);have H:=G h;unfold Gs;rw[vR a hi];have q:Hid (∀(W:V) (n:Nat) (b:Nat->Nat),W.heap[n]? =U (Jk (Nk b))->(Instr.lookup 165 (.map (U n)) (ZB t) true).run ZI W=.ok (.tuple #[.agg #[I J 0,.nilFunc],.bool false]) W):=G (fun W n b P=>by
  rw[pQ underlying165 underlying9 Aeh W n _ P (Ww b) t,Ako b hi];rfl)
 clear h A a hi d;go_enter func39,ntmps39;go_wp2_with fail;refine g.mono ?_;rintro e w1 ⟨rfl,m⟩;have C:w1.cell? ⟨w.heap.size,0,O⟩=U (ZB t):=by rw[m,cell_of_row _ _ 0 _ _ _ (Ab w _)];rfl
 have i:=G (show ZF w.heap.size w w1 from by rw[m];exact(R1 _ _).alloc (Y2 _) _);have Q:w.heap.size<w1.heap.size:=R3 w1 ⟨w.heap.size,0,O⟩ C;clear m g;go_upto_region 2 with fail;go_cut [7,8] (fun S X Y=>∃y b,S=ZA (U ⟨y,0,O⟩)/\X=.bool false/\Hid (PlD w1 0 .nilFunc b y Y));case first=>
  go_region_law (first|(go_simp;go_at_call 76;refine(v w1 _ ?_).mono ?_;(repeat(first|exact R1 _ _|refine H5 ?_|refine Zzv ?_ (Y2 _) _));rintro e s ⟨n,b,rfl,p⟩;have Z:=p.cell C;have l2:w.heap.size<s.heap.size:=R3 s ⟨w.heap.size,0,O⟩ Z;have lk:=q s n b p.map;have R:=fun ob=>q (s.alloc ob) n b (Bp ob p.map);(try(have l:s.heap[w1.heap.size]? =U (ZC #[I J 0,.nilFunc] 163):=p.old _ _ (Ab (World.drew w1) _);have u:=G l;obtain⟨K,L,N⟩:=Vz l;clear l));have D:=G p;clear p));all_goals
   go_wp2_with fail;go_meet;first
    |exact⟨_,b,rfl,rfl,D.after 0 .nilFunc⟩
    |exact⟨_,b,rfl,rfl,D.ahead 0 .nilFunc _ _ u rfl⟩
 case rest=>
  obtain⟨y,b,rfl,rfl,E⟩:=hcut;have j:=i.trans (E.bel.mono i.size);have f:=G (And.intro (H.below j) (Fr.below o j));obtain⟨s0,_⟩:=f.1.b.se.all;clear E j C Q i;go_wp2_with fail;go_quiet (fail);go_wp2_with fail;go_ret2;refine⟨rfl,x,o,f.1.below ?_,f.2.trans (Fr.below o ?_)⟩<;>exact Ag _ (R1 _ _)
end
theorem wQ{w w1:V}{d:ByteArray}{r:List ByteArray}(h:w1.heap[w.heap.size]? =U (ZC ((d::r).map Value.string).toArray 9))(k:Nat)(a:k<r.length):w1.cell? ⟨w.heap.size,1+k,O⟩=U (ZB r[k]):=by
 rw[cell_of_row _ _ _ _ _ _ h];simp[Nat.add_comm 1 k,a]
section
variable {B:Nat} {sa:Nat->Addr} {w0:V} {kb c pb:Nat} {txt:ByteArray} {x:KpX} {M:KpM} {o:Nat->Nat} {w:V} {T:Nat}
theorem Af6(line:ByteArray)(h:Bq B sa w0 kb c txt x M o w)(hO:Bn M T)(hN:U3 B w)(hp:w.heap[pb]? =U (plC kb c))(u:o pb=0)(bx:txt.size<=100000)(bv:line.size<=100000)(hT:T+2*Mc line<=400000)
  {R:ByteArray} {r:List ByteArray} {i:Nat} (A:Cx 32 line=R::r) (hi:C8 R=U i):
  ZH ZI 39 #[ZA (U ⟨pb,0,O⟩),ZB line] w (Gs B sa w0 kb c txt (E9 txt M line) o w):=by
 obtain⟨i0,am,ap,aq,ar⟩:=info_parts infoInt;have a6:=G (Rn line 32 w (by omega));have ax:(Cx 32 line).length=r.length+1:=by rw[A];rfl
 have ae:=Pf 32 line;rw[ax,A]at a6 ae;have br:=G (show r.length<=100000/\∀k (hk:k<r.length),r[k].size<=100000 from⟨by omega,fun k hk=>No (ae.2 _ (Zz5 _ (M2 hk))) bv⟩);have bo:=G (fun(w1 W:V) (hW:ZF w1.heap.size w1 W)=>Aem w1 W hW);have H:=G h;have ab:=Hg hi;obtain⟨C,D⟩:=Xx hi;have HM:=G (fun(l:r.length≠Ee i)=>vS (txt:=txt) (M:=M) A hi l);have HBad:=G (fun(l:Fw i 0 r=O)=>Aa5 (txt:=txt) (M:=M) A hi l);have HGood:=G (fun ns (l:r.length=Ee i) (hn:Fw i 0 r=U ns)=>vT (txt:=txt) (M:=M) A hi l hn);have bs:=G (fun ns (l:r.length=Ee i) (hn:Fw i 0 r=U ns)=>(show T+2*(if i=3 then ns.getD 0 0 else 0)<=400000 from by have:=I0 (Xy A hi l hn);omega));have Y:Hid (∀(W:V) (mb:Nat) (b:Nat->Nat),W.heap[mb]? =U (Jk (Nk b))->(Instr.lookup 165 (.map (U mb)) (ZB R) true).run ZI W=.ok (.tuple #[.agg #[I J (Ee i),.func (.func (Wv i)) #[] (Tm b i)],.bool true]) W):=G (fun W mb b l=>by
  rw[pQ underlying165 underlying9 Aeh W mb _ l (Ww b) R,Akn b hi];rfl)
 have he:=Adh i ab;have L:=G (fun(wr:V) (hb:ZF w.heap.size w wr) ns (l:r.length=Ee i) (hn:Fw i 0 r=U ns) (hl:ns.length=Ee i) (b:Nat->Nat) (hbx:∀k,k<7->wr.heap[b k]? =U (ZC #[fnV (rG.getD k 0)] 220)) (p:Nat) (nv:ZE) (f:wr.ownsRow p 3 1 nv ns.length (Ad (ns.map fun n:Nat=>(n:Int)))) (hpw:w.heap.size<=p)=>
  (Ana (h.below hb) hO (hN.tab.low hb h.top) (Ae hb hp (Aa hp)) u bx ab hl (bs ns l hn) b hbx p nv f (fun q Q=>by
   have:=(f.lt q Q).1;cases hz:o q with
   |zero=>rfl
   |succ z=>have:=(h.b.low q (by omega)).2;omega)).mono (fun e w' hh=>(show e=.returned (.tuple #[ZB (Cr txt M i ns).2.1,errv sa (Cr txt M i ns).1])/\∃x' o',Bq B sa w0 kb c txt x' (Cr txt M i ns).2.2 o' w'/\Fr o o' w w' from by
    obtain⟨h1,x',o',h2,h3⟩:=hh;exact⟨h1,x',o',h2,(Fr.below o hb).trans h3⟩)))
 have cc:=G (fun(wr:V) (hb:ZF w.heap.size w wr) (s:ByteArray) (hs:s.size<=100000)=>rF B s hs wr (hN.below hb h.top) (No h.top hb.size));unfold Gs;obtain⟨m,l⟩:∃m,m=Ee i:=⟨_,rfl⟩
 obtain⟨a,hF⟩:∃a,a=Wv i:=⟨_,rfl⟩
 obtain⟨CP,bu⟩:∃CP:(Nat->Nat)->Array ZE,CP=fun b=>Tm b i:=⟨_,rfl⟩
 have av:∀b,Tm b i=CP b:=fun b=>by rw[bu]
 simp only[av]at Y L;rw[<-l,<-hF]at Y;rw[<-hF]at he L;rw[<-l]at HM HGood L;clear h hO hN hp u bx bv hT A hi ax ae ab bs hF bu av l;go_enter func39,ntmps39;go_wp2_with fail;refine a6.mono ?_;rintro e w1 ⟨rfl,bg⟩;have bb:w1.heap[w.heap.size]? =U (ZC ((R::r).map Value.string).toArray 9):=by rw[bg];exact Ab w _
 have x0:w1.cell? ⟨w.heap.size,0,O⟩=U (ZB R):=by rw[cell_of_row _ _ 0 _ _ _ bb];rfl
 have HX:=G (fun k (hk:k<r.length)=>wQ bb k hk);have a7:=G (show ZF w.heap.size w w1 from by rw[bg];exact(R1 _ _).alloc (Y2 _) _);have l1:w.heap.size<w1.heap.size:=R3 w1 ⟨w.heap.size,0,O⟩ x0;clear bg a6 bb;go_upto_region 2 with fail;go_cut [7,8] (fun s7 s8 wx=>∃cb b,s7=ZA (U ⟨cb,0,O⟩)/\s8=.bool true/\Hid (PlD w1 m (.func (.func a) #[] (CP b)) b cb wx));case first=>
  go_region_law (first|(go_simp;go_at_call 76;refine(bo w1 _ ?_).mono ?_;(repeat(first|exact R1 _ _|refine H5 ?_|refine Zzv ?_ (Y2 _) _));rintro e w2 ⟨mb,b,rfl,hC⟩;have x2:=hC.cell x0;have l2:w.heap.size<w2.heap.size:=R3 w2 ⟨w.heap.size,0,O⟩ x2;have lk:=Y w2 mb b hC.map;have db:=fun ob=>Y (w2.alloc ob) mb b (Bp ob hC.map);(try(have ba:w2.heap[w1.heap.size]? =U (ZC #[I J 0,.nilFunc] 163):=hC.old _ _ (Ab (World.drew w1) _);have b8:=G ba;obtain⟨c5,c6,c7⟩:=Vz ba;clear ba));have HC:=G hC;clear hC));all_goals
   go_wp2_with fail;go_meet;first
    |exact⟨_,b,rfl,rfl,HC.after _ _⟩
    |exact⟨_,b,rfl,rfl,HC.ahead _ _ _ _ b8 rfl⟩
 case rest=>
  obtain⟨cb,b,rfl,rfl,hD⟩:=hcut;have aj:=a7.trans (hD.bel.mono a7.size);have a4:=G (And.intro (H.below aj) (Fr.below o aj));have t:=G aj;obtain⟨c0,c1,cf⟩:=Vz hD.c;have y0:wc.cell? ⟨w.heap.size,0,O⟩=U (ZB R):=by rw[hD.bel.cell (p:=⟨w.heap.size,0,O⟩) l1];exact x0
  have HY:=G (fun k (hk:k<r.length)=>(show wc.cell? ⟨w.heap.size,1+k,O⟩=U (ZB r[k])from by rw[hD.bel.cell (p:=⟨w.heap.size,1+k,O⟩) l1];exact HX k hk));have lc:w.heap.size<wc.heap.size:=R3 wc ⟨w.heap.size,0,O⟩ y0;have HD:=G hD.out;clear hD aj x0 l1 HX a7 bo Y;obtain⟨n,hn⟩:∃n,n=r.length:=⟨_,rfl⟩
  have HN:=G hn;rw[<-hn]at HM HGood L ⊢;have da:n<=100000:=by have:=br.1;omega
  clear hn;by_cases l:n=m
  ·have P:=G l;have cm:((n:Int) != (m:Int))=false:=by rw[l];simp
   clear l HM;go_upto_region 5 with fail;have K:Hid (PlL wc i r 0 [] (F O 0 0) wc):=G (⟨Aa3 i r,Zzr _ _ _ _,R1 _ _⟩);have hne:¬n=0\/n=0:=by omega
   rcases hne with cn|cn
   ·go_wp2_with fail;go_loopw [9,38] (fun s9 E wr=>∃(k:Nat) (a1:Option Addr) (j1:Nat) (ns:List Nat),k<=n/\s9=F a1 k j1/\E=I J k/\Hid (PlL wc i r k ns (F a1 k j1) wr)) (fun _ E _=>n-(intOf E).toNat);case atStart=>exact⟨0,O,0,[],In _,rfl,rfl,K⟩
    case round=>
     obtain⟨k,a1,j1,ns,hk,rfl,rfl,d⟩:=hrel;clear K;by_cases bw:k<n
     ·skip;have ad:k<r.length:=by have:=HN.out;omega
      have cy:(k:Int)<(n:Int):=by omega
      have z0:wr.cell? ⟨w.heap.size,0,O⟩=U (ZB R):=by rw[d.bel.cell (p:=⟨w.heap.size,0,O⟩) lc];exact y0
      have zk:wr.cell? ⟨w.heap.size,1+k,O⟩=U (ZB r[k]):=by rw[d.bel.cell (p:=⟨w.heap.size,1+k,O⟩) lc];exact HY k ad
      have X:=G (t.trans (d.bel.mono t.size));have a5:=G (cc wr X r[k] (br.2 k ad));have Z:=G d.out;obtain⟨rk,bf⟩:∃rk,rk=r[k]:=⟨_,rfl⟩
      have bq:=G bf;rw[<-bf]at zk a5;clear d bf;go_wp2_with fail;refine a5.mono ?_;rintro e wz ⟨nn,rfl,bd,bz⟩;have az:=G bz;have z0:wz.cell? ⟨w.heap.size,0,O⟩=U (ZB R):=by rw[bz.cell (p:=⟨w.heap.size,0,O⟩) (R3 wr ⟨w.heap.size,0,O⟩ z0)];exact z0
      have N:=G (And.intro (H.below (X.trans (bz.mono X.size))) (Fr.below o (X.trans (bz.mono X.size))));clear bz zk a5;cases Q:Gu rk with
      |none=>
       have S:=G (HBad (kZ Z.pre ad (.inl (by rw[<-bq.out];exact Q))));obtain⟨s0,_⟩:=N.1.b.se.all;clear Q bd;go_upto_region 11 with fail;go_quiet (fail);go_wp2_with fail;go_ret2;rw[S.out];refine⟨rfl,x,o,N.1.below ?_,N.2.trans (Fr.below o ?_)⟩<;>exact Ag _ (R1 _ _)
      |some q=>
       obtain rfl:nn=(q:Int):=bd q Q;have HQ:=G (show Gu r[k]=U q from by rw[<-bq.out];exact Q);have af:=G (fun(g:¬(k=0/\i≠3/\i≠4/\9<q)) (W w':V) (v':ZE) hb u hw=>PlL.next (wz:=wz) (W:=W) (w':=w') (v':=v') (Z.below az.out) ad HQ g hb u hw);have HLay:=G (fun(x:Obj)=>And.intro ((Z.below az.out).own.alloc x) (show wc.heap.size<=(wz.alloc x).heap.size by rw[H7];have:=(Z.below az.out).bel.size;omega));have b7:=G (fun(g:k=0/\i≠3/\i≠4/\9<q)=>HBad (kZ Z.pre ad (.inr ⟨q,HQ.out,g⟩)));have ai:Hid (k+1<=maxLen):=G (by unfold maxLen;omega);have ak:Hid ((k+1)*8<=140737488355328):=G (by omega);have hmes:Hid (n-(k+1)<n-k):=G (by omega);have an:Hid (k+1<=n):=bw;clear Q bd;by_cases ac:k=0
       ·have ck:((k:Int)==0)=true:=by rw[ac];rfl
        have b9:=G ac;clear ac;by_cases h3:i=3
        ·have ci:(R.toList== [116,105,99,107])=true:=by rw[C,h3];rfl
         have g:=af (fun hh=>hh.2.1 h3);have HG:=G g;clear h3 g C D;go_wp2_with (at_builtin;go_must (refine Bc rfl (.tmp 71) (.tmp 73) 48 rfl wc.heap.size 3 i0 _ 1 8 underlying48 am ap aq ar rfl (by decide) _ k _ rfl (HLay _).1 ⟨wz.heap.size,0,O⟩ 1 1 (Ad [(q:Int)]) rfl rfl (A1 _ (Ad [(q:Int)]) _) (El _) ai ak (HLay _).2 ?_;intro a2 k2 w4 u g;have nx:=G (HG _ w4 _ ((R1 _ _).alloc (Y2 _) _) u g);clear u g));go_roundw;case rel=>exact⟨k+1,a2,k2,ns++ [q],an.out,rfl,by go_num,nx⟩
         case measure=>simp[intOf];have:=hmes.out;omega
        ·have ci:(R.toList== [116,105,99,107])=false:=by rw[C];exact N1 h3
         by_cases h4:i=4
         ·have cj:(R.toList== [99,117,116])=true:=by rw[D,h4];rfl
          have g:=af (fun hh=>hh.2.2.1 h4);have HG:=G g;clear h3 h4 g C D;go_wp2_with (at_builtin;go_must (refine Bc rfl (.tmp 71) (.tmp 73) 48 rfl wc.heap.size 3 i0 _ 1 8 underlying48 am ap aq ar rfl (by decide) _ k _ rfl (HLay _).1 ⟨wz.heap.size,0,O⟩ 1 1 (Ad [(q:Int)]) rfl rfl (A1 _ (Ad [(q:Int)]) _) (El _) ai ak (HLay _).2 ?_;intro a2 k2 w4 u g;have nx:=G (HG _ w4 _ ((R1 _ _).alloc (Y2 _) _) u g);clear u g));go_roundw;case rel=>exact⟨k+1,a2,k2,ns++ [q],an.out,rfl,by go_num,nx⟩
          case measure=>simp[intOf];have:=hmes.out;omega
         ·have cj:(R.toList== [99,117,116])=false:=by rw[D];exact N1 h4
          by_cases h9:9<q
          ·have S:=G (b7 ⟨b9.out,h3,h4,h9⟩);have ce:(9:Int)<(q:Int):=by omega
           obtain⟨s0,_⟩:=N.1.b.se.all;clear h3 h4 h9 C D;go_upto_region 11 with fail;go_quiet (fail);go_wp2_with fail;go_ret2;rw[S.out];refine⟨rfl,x,o,N.1.below ?_,N.2.trans (Fr.below o ?_)⟩<;>exact Ag _ (R1 _ _)
          ·have g:=af (fun hh=>h9 hh.2.2.2);have HG:=G g;have ce:(q:Int)<=9:=by omega
           clear h3 h4 h9 g C D;go_wp2_with (at_builtin;go_must (refine Bc rfl (.tmp 71) (.tmp 73) 48 rfl wc.heap.size 3 i0 _ 1 8 underlying48 am ap aq ar rfl (by decide) _ k _ rfl (HLay _).1 ⟨wz.heap.size,0,O⟩ 1 1 (Ad [(q:Int)]) rfl rfl (A1 _ (Ad [(q:Int)]) _) (El _) ai ak (HLay _).2 ?_;intro a2 k2 w4 u g;have nx:=G (HG _ w4 _ ((R1 _ _).alloc (Y2 _) _) u g);clear u g));go_roundw;case rel=>exact⟨k+1,a2,k2,ns++ [q],an.out,rfl,by go_num,nx⟩
           case measure=>simp[intOf];have:=hmes.out;omega
       ·have ck:((k:Int)==0)=false:=beq_eq_false_iff_ne.2 (by omega);have g:=af (fun hh=>ac hh.1);have HG:=G g;clear ac g C D;go_wp2_with (at_builtin;go_must (refine Bc rfl (.tmp 71) (.tmp 73) 48 rfl wc.heap.size 3 i0 _ 1 8 underlying48 am ap aq ar rfl (by decide) _ k _ rfl (HLay _).1 ⟨wz.heap.size,0,O⟩ 1 1 (Ad [(q:Int)]) rfl rfl (A1 _ (Ad [(q:Int)]) _) (El _) ai ak (HLay _).2 ?_;intro a2 k2 w4 u g;have nx:=G (HG _ w4 _ ((R1 _ _).alloc (Y2 _) _) u g);clear u g));go_roundw;case rel=>exact⟨k+1,a2,k2,ns++ [q],an.out,rfl,by go_num,nx⟩
        case measure=>simp[intOf];have:=hmes.out;omega
     ·skip;have j:Fw i 0 r=U ns:=kY (by rw[<-HN.out,show n=k by omega];exact d.pre);have bc:k=m:=by have:=P.out;omega
      have a3:=G (HGood ns P j);have y:ns.length=k:=d.pre.1;have f:=d.own;rw[<-y]at f;have aa:=t.trans (d.bel.mono t.size);have v:=G (L wr aa ns P j (by omega) b (fun q Q=>Ae d.bel (HD.box q Q) (Aa (HD.box q Q))) wc.heap.size (F a1 ns.length j1) f t.size);rw[y]at v;have d1:wr.cell? ⟨cb,1,O⟩=U (.func (.func a) #[] (CP b)):=by rw[d.bel.cell (p:=⟨cb,1,O⟩) (R3 wc ⟨cb,1,O⟩ c1)];exact c1
      have cl:¬(k:Int)<(n:Int):=by omega
      clear d f y j bc aa;go_wp2_with fail;refine v.mono ?_;rintro e w5 ⟨rfl,z⟩;have HZ:=G z;clear z v;go_wp2_with fail;go_ret2;rw[a3.out];exact⟨rfl,HZ.out⟩
   ·go_wp2_with fail;go_loopw [9,38] (fun s9 E wr=>∃(k:Nat) (a1:Option Addr) (j1:Nat) (ns:List Nat),k<=n/\s9=F a1 k j1/\E=I J k/\Hid (PlL wc i r k ns (F a1 k j1) wr)) (fun _ E _=>n-(intOf E).toNat);case atStart=>exact⟨0,O,0,[],In _,rfl,rfl,K⟩
    case round=>
     obtain⟨k,a1,j1,ns,hk,rfl,rfl,d⟩:=hrel;clear K;by_cases bw:k<n
     ·omega
     ·skip;have j:Fw i 0 r=U ns:=kY (by rw[<-HN.out,show n=k by omega];exact d.pre);have bc:k=m:=by have:=P.out;omega
      have a3:=G (HGood ns P j);have y:ns.length=k:=d.pre.1;have f:=d.own;rw[<-y]at f;have aa:=t.trans (d.bel.mono t.size);have v:=G (L wr aa ns P j (by omega) b (fun q Q=>Ae d.bel (HD.box q Q) (Aa (HD.box q Q))) wc.heap.size (F a1 ns.length j1) f t.size);rw[y]at v;have d1:wr.cell? ⟨cb,1,O⟩=U (.func (.func a) #[] (CP b)):=by rw[d.bel.cell (p:=⟨cb,1,O⟩) (R3 wc ⟨cb,1,O⟩ c1)];exact c1
      have cl:¬(k:Int)<(n:Int):=by omega
      clear d f y j bc aa;go_wp2_with fail;refine v.mono ?_;rintro e w5 ⟨rfl,z⟩;have HZ:=G z;clear z v;go_wp2_with fail;go_ret2;rw[a3.out];exact⟨rfl,HZ.out⟩
  ·have S:=G (HM l);have cm:((n:Int) != (m:Int))=true:=bne_iff_ne.2 (by omega);obtain⟨s0,_⟩:=a4.1.b.se.all;clear l HM;go_upto_region 4 with fail;go_quiet (fail);go_wp2_with fail;go_ret2;rw[S.out];refine⟨rfl,x,o,a4.1.below ?_,a4.2.trans (Fr.below o ?_)⟩<;>exact Ag _ (R1 _ _)
theorem Ait(line:ByteArray)(h:Bq B sa w0 kb c txt x M o w)(g:Bn M T)(f:U3 B w)(m:w.heap[pb]? =U (plC kb c))(l:o pb=0)(e:txt.size<=100000)(a:line.size<=100000)(j:T+2*Mc line<=400000):
  ZH ZI 39 #[ZA (U ⟨pb,0,O⟩),ZB line] w (Gs B sa w0 kb c txt (E9 txt M line) o w):=by
 obtain⟨n,r,d,-⟩:=wP line;cases hi:C8 n with
 |none=>exact Af7 line h a d hi
 |some i=>exact Af6 line h g f m l e a j d hi
