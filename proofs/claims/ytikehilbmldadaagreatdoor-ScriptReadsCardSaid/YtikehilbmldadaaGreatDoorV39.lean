import Derived.Test.YtikehilbmldadaaGreatDoorV36
set_option linter.unusedVariables false
open Go.Proofs.Tryz Go.Proofs.YtikehilbmldadaaGreatDoor.Tryz
namespace Go.Proofs.YtikehilbmldadaaGreatDoor
open Go.RowKit
theorem Ahu(a:W1):Ca [a]=B3 a++ [10]:=by simp[Ca,upB,Ob,List.range_succ]
theorem X6(a b:W1):Ca [a,b]=B3 a++32::B3 b++ [10]:=by simp[Ca,upB,Ob,List.range_succ]
theorem xM(a b c:W1):Ca [a,b,c]=B3 a++32::B3 b++32::B3 c++ [10]:=by simp[Ca,upB,Ob,List.range_succ]
theorem Ago(a b c d:W1):Ca [a,b,c,d]=B3 a++32::B3 b++32::B3 c++32::B3 d++ [10]:=by simp[Ca,upB,Ob,List.range_succ]
theorem Agn(a b c d e:W1):Ca [a,b,c,d,e]=B3 a++32::B3 b++32::B3 c++32::B3 d++32::B3 e++ [10]:=by simp[Ca,upB,Ob,List.range_succ]
structure gQ (E:Ap) (k:Int):Prop where
 c:k<5->E.count= -1
 g:k<6->E.gaps= []
 e:k<7->E.edges= []
 f:k<8->E.first= []
 l:k<9->E.last= []
structure R7 (st:RdS):Prop where
 lo:-1<=st.stage/\st.stage<=9
 no:st.stage<3->st.c.ents= []
 ne:3<=st.stage->st.c.ents≠ []
 fit:3<=st.stage->gQ (Bo st.c.ents) st.stage
def rS(st:RdS):List (List W1):=(G2 st.c).take (st.stage+1).toNat++st.c.ents.flatMap B6
def txt(st:RdS):List UInt8:=Aq (rS st)
theorem Aa5:R7 RdS.start:=⟨⟨by decide,by decide⟩,fun _=>rfl,fun h=>absurd h (by decide),fun h=>absurd h (by decide)⟩
theorem yA:txt RdS.start= []:=rfl
theorem G7{t:ByteArray}{k:Nat}(h:Dz t=some k):Lib.itoa (k:Int)=t.data.toList:=by
 unfold Dz at h
 split at h
 ·split at h
  ·next v hv hc=>
   obtain rfl:=Option.some.inj h
   rw[Int.toNat_of_nonneg hc.2.1]
   exact hc.2.2
  ·cases h
 ·cases h
theorem Jh{a b:ByteArray}(h:a.data.toList=b.data.toList):a=b:=by
 cases a;cases b
 exact congrArg ByteArray.mk (Array.toList_inj.1 h)
theorem Af8{l:List ByteArray}{t:ByteArray}(h:0<=Cn l t):l.getD (Cn l t).toNat ByteArray.empty=t/\(Cn l t).toNat<l.length:=by
 unfold Cn C9 at h ⊢
 cases hf:l.findIdx? (fun x=>x.toList==t.toList)with
 |none=>rw[hf]at h;simp at h
 |some k=>
  obtain⟨hk,h1,_⟩:=List.findIdx?_eq_some_iff_getElem.1 hf
  simp only[Int.toNat_natCast]
  refine⟨?_,hk⟩
  rw[List.getD_eq_getElem?_getD,List.getElem?_eq_getElem hk]
  have h2:=eq_of_beq h1
  rw[ByteArray.toList_eq,ByteArray.toList_eq]at h2
  exact Jh h2
theorem tU{L:List Ap}(h:L≠ []):L=L.dropLast++ [Bo L]:=by
 have:=List.dropLast_concat_getLast h
 rw[Bo,List.getLast?_eq_some_getLast h]
 exact this.symm
theorem Id(L:List Ap)(E:Ap):Bo (L++ [E])=E:=by simp[Bo]
theorem Fb{pts:List ByteArray}{fs:List UInt8}{ts:List ByteArray}{k:Nat}{q:List Int × Bool}(h:Az pts fs ts (k+1)=some q):∃p,Az pts fs ts k=some p/\A2 pts (fs.getD k 0) (ts.getD k ByteArray.empty) p=some q:=by
 unfold Az at h
 cases hp:Az pts fs ts k with
 |none=>rw[hp]at h;cases h
 |some p=>rw[hp]at h;exact⟨p,rfl,h⟩
theorem Oa{pts:List ByteArray}{t:ByteArray}{p q:List Int × Bool}(h:A2 pts 110 t p=some q):∃k:Nat,Dz t=some k/\q=(p.1++ [(k:Int)],p.2):=by
 unfold A2 at h
 rw[if_pos rfl]at h
 cases hn:Dz t with
 |none=>rw[hn]at h;cases h
 |some k=>rw[hn]at h;exact⟨k,rfl,(Option.some.inj h).symm⟩
theorem Se{pts:List ByteArray}{t:ByteArray}{p q:List Int × Bool}(h:A2 pts 112 t p=some q):q=(p.1++ [Cn pts t],p.2||decide (Cn pts t<0)):=by
 unfold A2 at h
 rw[if_neg (by decide)]at h
 split at h
 ·cases h
 ·rw[if_pos rfl]at h
  exact(Option.some.inj h).symm
theorem Acg{pts:List ByteArray}{t:ByteArray}{p q:List Int × Bool}(h:A2 pts 115 t p=some q):q=p:=by
 unfold A2 at h
 rw[if_neg (by decide)]at h
 split at h
 ·cases h
 ·rw[if_neg (by decide)]at h
  exact(Option.some.inj h).symm
theorem Oy{s:ByteArray}(h:Dr s=true):∃p∈Dj,p.1=s/\Bp s=p.2.1/\Ba s=p.2.2:=by
 unfold Dr Gb at h
 unfold Bp Ba Gb
 cases hf:Dj.find? (fun p=>p.1.data.toList==s.data.toList)with
 |none=>rw[hf]at h;cases h
 |some p=>
  have h1:=List.find?_some hf
  exact⟨p,List.mem_of_find?_eq_some hf,Jh (eq_of_beq h1),rfl,rfl⟩
theorem X4(s:ByteArray):Cb 32 ((Ic s).map (·.data.toList))=s.data.toList:=by
 unfold Ic
 rw[El,Mm]
theorem Va(s:ByteArray):Ic s≠ []:=by
 intro h
 have:=El 32 s
 rw[show Bj 32 s= [] from h]at this
 exact V4 32 _ this.symm
theorem pG{st:RdS}{s:ByteArray}(h:Ch st s=true):∃p∈Dj,∃ts,Ic s=p.1::ts/\Gq s=p.1/\ts.length=p.2.2.size/\Bi st.stage p.2.1=true/\Bp p.1=p.2.1/\Ba p.1=p.2.2:=by
 unfold Ch at h
 rw[Bool.and_eq_true,Bool.and_eq_true]at h
 obtain⟨⟨h1,h2⟩,h3⟩:=h
 obtain⟨p,hp,e,hs,hw⟩:=Oy h1
 have h3:=eq_of_beq h3
 cases hl:Ic s with
 |nil=>exact absurd hl (Va s)
 |cons a ts=>
  have ha:Gq s=a:=by unfold Gq;rw[hl];rfl
  rw[hs]at h2
  rw[hl,hw]at h3
  refine⟨p,hp,ts,?_,e.symm,by simpa using h3,h2,by rw[e];exact hs,by rw[e];exact hw⟩
  rw[e,ha]
theorem Vb{st st':RdS}{s:ByteArray}(h:A8 st s=(0,st')):Ch st s=true/\∃n,Lf st s=some (n,false)/\st'=⟨Bf (Bp (Gq s)) ((Ic s).getD 1 ByteArray.empty) n st.c,Bp (Gq s)⟩:=by
 unfold A8 at h
 split at h
 ·next hf=>
  refine⟨hf,?_⟩
  cases hr:Lf st s with
  |none=>rw[hr]at h;cases h
  |some p=>
   rw[hr]at h
   obtain⟨n,z⟩:=p
   cases z
   ·exact⟨n,rfl,((Prod.mk.inj h).2).symm⟩
   ·cases h
 ·cases h
theorem Pj{C:Al}{k:Int}(h:2<=k):(G2 C).take (k+1).toNat=G2 C:=List.take_of_length_le (by show 3<=_;omega)
theorem Lw{st:RdS}{k:Nat}{E':Ap}{ws:List W1}{C':Al}(h2:2<=st.stage)(hk:2<=k)(hne:st.c.ents≠ [])(hh:G2 C'=G2 st.c)(he:C'.ents=st.c.ents.dropLast++ [E'])(hl:B6 E'=B6 (Bo st.c.ents)++ [ws]):
  txt ⟨C',(k:Int)⟩=txt st++Ca ws:=by
 unfold txt rS
 show Aq ((G2 C').take ((k:Int)+1).toNat++C'.ents.flatMap B6)=_
 rw[Pj (by omega),Pj h2,hh,he]
 conv=>rhs;rw[tU hne]
 rw[List.flatMap_append,List.flatMap_append,List.flatMap_singleton,List.flatMap_singleton,hl,B4,B4,B4,B4,B4,D8]
 simp only[List.append_assoc]
theorem Ml{st:RdS}{k:Nat}{E':Ap}{C':Al}(hk:3<=k)(hk9:k<=9)(he:C'.ents=st.c.ents.dropLast++ [E'])(hf:gQ E' (k:Int)):R7 ⟨C',(k:Int)⟩:=by
 refine⟨⟨by show(-1:Int)<=k;omega,by show(k:Int)<=9;omega⟩,fun h=>absurd h (by show ¬(k:Int)<3;omega),fun _=>?_,fun _=>?_⟩
 ·show C'.ents≠ []
  rw[he];simp
 ·show gQ (Bo C'.ents) (k:Int)
  rw[he,Id];exact hf
theorem Kz{E:Ap}{t:ByteArray}(h:0<=Cn E.points t):Bb E (Cn E.points t)=t:=(Af8 h).1
theorem Vn{C:Al}{k:Int}(h1:-1<=k)(h2:k<3)(he:C.ents= []):R7 ⟨C,k⟩:=
 ⟨⟨h1,by show k<=9;omega⟩,fun _=>he,fun h=>absurd (show 3<=k from h) (by omega),fun h=>absurd (show 3<=k from h) (by omega)⟩
theorem Ad0{ts:List ByteArray}(h:ts.length=1):∃a,ts= [a]:=by
 match ts,h with
 |[a],_=>exact⟨a,rfl⟩
theorem Ag7{ts:List ByteArray}(h:ts.length=2):∃a b,ts= [a,b]:=by
 match ts,h with
 |[a,b],_=>exact⟨a,b,rfl⟩
theorem Ah5{ts:List ByteArray}(h:ts.length=3):∃a b c,ts= [a,b,c]:=by
 match ts,h with
 |[a,b,c],_=>exact⟨a,b,c,rfl⟩
theorem Ah4{ts:List ByteArray}(h:ts.length=4):∃a b c d,ts= [a,b,c,d]:=by
 match ts,h with
 |[a,b,c,d],_=>exact⟨a,b,c,d,rfl⟩
theorem J9{pts:List ByteArray}{fs:List UInt8}{ts:List ByteArray}{q:List Int × Bool}(h:Az pts fs ts 0=some q):q=([],false):=(Option.some.inj h).symm
section
variable {pts:List ByteArray} {a b c d:ByteArray} {n:List Int}
theorem Agk(h:Az pts [110] [a] 1=some (n,false)):∃k:Nat,Dz a=some k/\n= [(k:Int)]:=by
 obtain⟨p1,h1,s1⟩:=Fb h
 obtain rfl:=J9 h1
 obtain⟨k,hk,e⟩:=Oa s1
 exact⟨k,hk,(Prod.mk.inj e).1⟩
theorem Ag0(h:Az pts [110,110] [a,b] 2=some (n,false)):∃k m:Nat,Dz a=some k/\Dz b=some m/\n= [(k:Int),(m:Int)]:=by
 obtain⟨p2,h2,s2⟩:=Fb h
 obtain⟨p1,h1,s1⟩:=Fb h2
 obtain rfl:=J9 h1
 obtain⟨k,hk,rfl⟩:=Oa s1
 obtain⟨m,hm,e⟩:=Oa s2
 exact⟨k,m,hk,hm,(Prod.mk.inj e).1⟩
theorem Ahk(h:Az pts [115] [a] 1=some (n,false)):n= []:=by
 obtain⟨p1,h1,s1⟩:=Fb h
 obtain rfl:=J9 h1
 exact(Prod.mk.inj (Acg s1)).1
theorem Agy(h:Az pts [115,110] [a,b] 2=some (n,false)):∃m:Nat,Dz b=some m/\n= [(m:Int)]:=by
 obtain⟨p2,h2,s2⟩:=Fb h
 obtain⟨p1,h1,s1⟩:=Fb h2
 obtain rfl:=J9 h1
 obtain rfl:=Acg s1
 obtain⟨m,hm,e⟩:=Oa s2
 exact⟨m,hm,(Prod.mk.inj e).1⟩
theorem Agj(h:Az pts [112] [a] 1=some (n,false)):0<=Cn pts a/\n= [Cn pts a]:=by
 obtain⟨p1,h1,s1⟩:=Fb h
 obtain rfl:=J9 h1
 have e:=Se s1
 have e2:=(Prod.mk.inj e).2
 simp at e2
 exact⟨e2,(Prod.mk.inj e).1⟩
theorem Agz(h:Az pts [112,112] [a,b] 2=some (n,false)):0<=Cn pts a/\0<=Cn pts b/\n= [Cn pts a,Cn pts b]:=by
 obtain⟨p2,h2,s2⟩:=Fb h
 obtain⟨p1,h1,s1⟩:=Fb h2
 obtain rfl:=J9 h1
 obtain rfl:=Se s1
 have e:=Se s2
 have e2:=(Prod.mk.inj e).2
 simp at e2
 exact⟨e2.1,e2.2,(Prod.mk.inj e).1⟩
theorem Afw(h:Az pts [112,110,110] [a,b,c] 3=some (n,false)):∃k m:Nat,0<=Cn pts a/\Dz b=some k/\Dz c=some m/\n= [Cn pts a,(k:Int),(m:Int)]:=by
 obtain⟨p3,h3,s3⟩:=Fb h
 obtain⟨p2,h2,s2⟩:=Fb h3
 obtain⟨p1,h1,s1⟩:=Fb h2
 obtain rfl:=J9 h1
 obtain rfl:=Se s1
 obtain⟨k,hk,rfl⟩:=Oa s2
 obtain⟨m,hm,e⟩:=Oa s3
 have e2:=(Prod.mk.inj e).2
 simp at e2
 exact⟨k,m,e2,hk,hm,(Prod.mk.inj e).1⟩
theorem Ac7(h:Az pts [112,112,110,110] [a,b,c,d] 4=some (n,false)):∃k m:Nat,0<=Cn pts a/\0<=Cn pts b/\Dz c=some k/\Dz d=some m/\n= [Cn pts a,Cn pts b,(k:Int),(m:Int)]:=by
 obtain⟨p4,h4,s4⟩:=Fb h
 obtain⟨p3,h3,s3⟩:=Fb h4
 obtain⟨p2,h2,s2⟩:=Fb h3
 obtain⟨p1,h1,s1⟩:=Fb h2
 obtain rfl:=J9 h1
 obtain rfl:=Se s1
 obtain rfl:=Se s2
 obtain⟨k,hk,rfl⟩:=Oa s3
 obtain⟨m,hm,e⟩:=Oa s4
 have e2:=(Prod.mk.inj e).2
 simp at e2
 exact⟨k,m,e2.1,e2.2,hk,hm,(Prod.mk.inj e).1⟩
end
theorem Adm{st st':RdS}{s:ByteArray}(hI:R7 st)(h:A8 st s=(0,st')):R7 st'/\txt st'=txt st++(s.data.toList++ [10]):=by
 obtain⟨hf,n,hr,rfl⟩:=Vb h
 obtain⟨p,hp,ts,hl,hh,hlen,hrt,hs,hw⟩:=pG hf
 have hj:=X4 s
 unfold Lf at hr
 rw[hh,hw,hl,List.tail_cons]at hr
 rw[hl]at hj
 rw[hh,hs,hl]
 have hlo:=hI.lo
 simp only[Dj,List.mem_cons,List.not_mem_nil,or_false]at hp
 rcases hp with rfl|rfl|rfl|rfl|rfl|rfl|rfl|rfl|rfl|rfl
 ·obtain⟨a,b,rfl⟩:=Ag7 hlen
  obtain⟨k,m,hk,hm,rfl⟩:=Ag0 hr
  have hst:st.stage= -1:=by simpa [Bi] using hrt
  have he:=hI.no (by omega)
  refine⟨Vn (by decide) (by decide) he,?_⟩
  have e1:txt st= []:=by unfold txt rS;rw[hst,he];rfl
  rw[e1,<-hj,List.nil_append]
  show Aq ([[.str Ii,.num k,.num m]]++st.c.ents.flatMap B6)=_
  rw[he]
  show Aq [[.str Ii,.num k,.num m]]=_
  rw[D8,xM]
  simp only[B3,G7 hk,G7 hm,List.map_cons,List.map_nil,Cb,Ii]
  simp
 ·obtain⟨a,rfl⟩:=Ad0 hlen
  obtain⟨k,hk,rfl⟩:=Agk hr
  have hst:st.stage=0:=by simpa [Bi] using hrt
  have he:=hI.no (by omega)
  refine⟨Vn (by decide) (by decide) he,?_⟩
  have e1:txt st=Aq [[.str Ii,.num st.c.closed,.num st.c.opn]]:=by unfold txt rS;rw[hst,he];rfl
  rw[e1,<-hj]
  show Aq ([[.str Ii,.num st.c.closed,.num st.c.opn],[.str Je,.num k]]++st.c.ents.flatMap B6)=_
  rw[he]
  show Aq ([[.str Ii,.num st.c.closed,.num st.c.opn]]++ [[.str Je,.num k]])=_
  rw[B4,D8 [.str Je,.num k],X6]
  simp only[B3,G7 hk,List.map_cons,List.map_nil,Cb,Je]
 ·obtain⟨a,rfl⟩:=Ad0 hlen
  obtain⟨k,hk,rfl⟩:=Agk hr
  have hst:st.stage=1:=by simpa [Bi] using hrt
  have he:=hI.no (by omega)
  refine⟨Vn (by decide) (by decide) he,?_⟩
  have e1:txt st=Aq [[.str Ii,.num st.c.closed,.num st.c.opn],[.str Je,.num st.c.cycle]]:=by unfold txt rS;rw[hst,he];rfl
  rw[e1,<-hj]
  show Aq ([[.str Ii,.num st.c.closed,.num st.c.opn],[.str Je,.num st.c.cycle],[.str N6,.num k]]++st.c.ents.flatMap B6)=_
  rw[he]
  show Aq ([[.str Ii,.num st.c.closed,.num st.c.opn],[.str Je,.num st.c.cycle]]++ [[.str N6,.num k]])=_
  rw[B4,D8 [.str N6,.num k],X6]
  simp only[B3,G7 hk,List.map_cons,List.map_nil,Cb,N6]
 ·obtain⟨a,b,rfl⟩:=Ag7 hlen
  obtain⟨m,hm,rfl⟩:=Agy hr
  have hst:2<=st.stage:=by simpa [Bi] using hrt
  refine⟨⟨⟨(by decide:(-1:Int)<=3),(by decide:(3:Int)<=9)⟩,fun h=>absurd h (by decide:¬(3:Int)<3),fun _=>?_,fun _=>?_⟩,?_⟩
  ·show st.c.ents++ [Mi a m]≠ []
   simp
  ·show gQ (Bo (st.c.ents++ [Mi a m])) 3
   rw[Id]
   exact⟨fun _=>rfl,fun _=>rfl,fun _=>rfl,fun _=>rfl,fun _=>rfl⟩
  ·rw[<-hj]
   unfold txt rS
   rw[Pj hst]
   show Aq (G2 st.c++(st.c.ents++ [Mi a m]).flatMap B6)=_
   rw[List.flatMap_append,List.flatMap_singleton,show B6 (Mi a m)= [[.str J2,.str a,.num m]] from rfl,B4,B4,B4,D8,xM]
   simp only[B3,G7 hm,List.map_cons,List.map_nil,Cb,J2]
   simp
 all_goals
  have hst3:3<=st.stage:=by
   simp[Bi]at hrt
   omega
  have hne:=hI.ne hst3
  have hF:=hI.fit hst3
  obtain⟨E,hE⟩:∃E,E=Bo st.c.ents:=⟨_,rfl⟩
 ·obtain⟨a,rfl⟩:=Ad0 hlen
  have hst:st.stage<=4:=by simp[Bi]at hrt;omega
  obtain rfl:=Ahk hr
  have hl':B6 (Bl 4 a [] (Bo st.c.ents))=B6 (Bo st.c.ents)++ [Hi a]:=by
   rw[<-hE]at hF ⊢
   have h1:=hF.c (by omega)
   have h2:=hF.g (by omega)
   have h3:=hF.e (by omega)
   have h4:=hF.f (by omega)
   have h5:=hF.l (by omega)
   cases E
   simp only at h1 h2 h3 h4 h5
   subst h1 h2 h3 h4 h5
   simp[B6,Bl,Ew]
  refine⟨Ml (k:=4) (by decide) (by decide) rfl ?_,?_⟩
  ·rw[<-hE]at hF ⊢
   show gQ (Bl 4 a [] E) 4
   exact⟨fun _=>hF.c (by omega),fun _=>hF.g (by omega),fun _=>hF.e (by omega),fun _=>hF.f (by omega),fun _=>hF.l (by omega)⟩
  ·refine(Lw (st:=st) (k:=4) (C':=Bf 4 a [] st.c) (by omega) (by decide) hne rfl rfl hl').trans ?_
   rw[<-hj]
   unfold Hi
   rw[X6]
   simp only[B3,List.map_cons,List.map_nil,Cb,Zb]
 ·obtain⟨a,b,c,rfl⟩:=Ah5 hlen
  have hst:st.stage<=4:=by simp[Bi]at hrt;omega
  obtain⟨k,m,hx,hk,hm,rfl⟩:=Afw hr
  have hnm:=Kz hx
  rw[<-hE]at hx hnm
  have hl':B6 (Bl 5 a [Cn (Bo st.c.ents).points a,(k:Int),(m:Int)] (Bo st.c.ents))=B6 (Bo st.c.ents)++ [[.str N7,.str a,.num k,.num m]]:=by
   rw[<-hE]at hF ⊢
   have h1:=hF.c (by omega)
   have e1:Ew E= []:=by unfold Ew;rw[h1];rfl
   show [.str J2,.str E.name,.num E.tol]::(E.points.map Hi++(if 0<=Cn E.points a then [[.str N7,.str (Bb E (Cn E.points a)),.num k,.num m]] else [])++E.gaps.map (Ed E)++E.edges.map (D5 E)++E.first.map (Ev E)++E.last.map (Et E))=_
   rw[if_pos hx,hnm]
   unfold B6
   rw[e1,hF.g (by omega),hF.e (by omega),hF.f (by omega),hF.l (by omega)]
   simp
  refine⟨Ml (k:=5) (by decide) (by decide) rfl ?_,?_⟩
  ·rw[<-hE]at hF ⊢
   show gQ (Bl 5 a [Cn E.points a,(k:Int),(m:Int)] E) 5
   exact⟨fun h=>absurd h (by decide),fun _=>hF.g (by omega),fun _=>hF.e (by omega),fun _=>hF.f (by omega),fun _=>hF.l (by omega)⟩
  ·refine(Lw (st:=st) (k:=5) (C':=Bf 5 a [Cn (Bo st.c.ents).points a,(k:Int),(m:Int)] st.c) (by omega) (by decide) hne rfl rfl hl').trans ?_
   rw[<-hj,Ago]
   simp only[B3,G7 hk,G7 hm,List.map_cons,List.map_nil,Cb,N7]
   simp
 ·obtain⟨a,b,c,d,rfl⟩:=Ah4 hlen
  have hst:st.stage<=6:=by simp[Bi]at hrt;omega
  obtain⟨k,m,hx,hy,hk,hm,rfl⟩:=Ac7 hr
  have hnm:=Kz hx
  have hnn:=Kz hy
  rw[<-hE]at hnm hnn
  have hl':B6 (Bl 6 a [Cn (Bo st.c.ents).points a,Cn (Bo st.c.ents).points b,(k:Int),(m:Int)] (Bo st.c.ents))=B6 (Bo st.c.ents)++ [[.str Sr,.str a,.str b,.num k,.num m]]:=by
   rw[<-hE]at hF ⊢
   show [.str J2,.str E.name,.num E.tol]::(E.points.map Hi++Ew E++(E.gaps++ [(⟨Cn E.points a,Cn E.points b,(k:Int),(m:Int)⟩:Lb)]).map (Ed E)++E.edges.map (D5 E)++E.first.map (Ev E)++E.last.map (Et E))=_
   unfold B6
   rw[hF.e (by omega),hF.f (by omega),hF.l (by omega),List.map_append,List.map_singleton]
   unfold Ed
   rw[hnm,hnn]
   simp
  refine⟨Ml (k:=6) (by decide) (by decide) rfl ?_,?_⟩
  ·rw[<-hE]at hF ⊢
   show gQ (Bl 6 a [Cn E.points a,Cn E.points b,(k:Int),(m:Int)] E) 6
   exact⟨fun h=>absurd h (by decide),fun h=>absurd h (by decide),fun _=>hF.e (by omega),fun _=>hF.f (by omega),fun _=>hF.l (by omega)⟩
  ·refine(Lw (st:=st) (k:=6) (C':=Bf 6 a [Cn (Bo st.c.ents).points a,Cn (Bo st.c.ents).points b,(k:Int),(m:Int)] st.c) (by omega) (by decide) hne rfl rfl hl').trans ?_
   rw[<-hj,Agn]
   simp only[B3,G7 hk,G7 hm,List.map_cons,List.map_nil,Cb,Sr]
   simp
 ·obtain⟨a,b,rfl⟩:=Ag7 hlen
  have hst:st.stage<=7:=by simp[Bi]at hrt;omega
  obtain⟨hx,hy,rfl⟩:=Agz hr
  have hnm:=Kz hx
  have hnn:=Kz hy
  rw[<-hE]at hnm hnn
  have hl':B6 (Bl 7 a [Cn (Bo st.c.ents).points a,Cn (Bo st.c.ents).points b] (Bo st.c.ents))=B6 (Bo st.c.ents)++ [[.str Su,.str a,.str b]]:=by
   rw[<-hE]at hF ⊢
   show [.str J2,.str E.name,.num E.tol]::(E.points.map Hi++Ew E++E.gaps.map (Ed E)++(E.edges++ [(Cn E.points a,Cn E.points b)]).map (D5 E)++E.first.map (Ev E)++E.last.map (Et E))=_
   unfold B6
   rw[hF.f (by omega),hF.l (by omega),List.map_append,List.map_singleton]
   unfold D5
   rw[hnm,hnn]
   simp
  refine⟨Ml (k:=7) (by decide) (by decide) rfl ?_,?_⟩
  ·rw[<-hE]at hF ⊢
   show gQ (Bl 7 a [Cn E.points a,Cn E.points b] E) 7
   exact⟨fun h=>absurd h (by decide),fun h=>absurd h (by decide),fun h=>absurd h (by decide),fun _=>hF.f (by omega),fun _=>hF.l (by omega)⟩
  ·refine(Lw (st:=st) (k:=7) (C':=Bf 7 a [Cn (Bo st.c.ents).points a,Cn (Bo st.c.ents).points b] st.c) (by omega) (by decide) hne rfl rfl hl').trans ?_
   rw[<-hj,xM]
   simp only[B3,List.map_cons,List.map_nil,Cb,Su]
   simp
 ·obtain⟨a,rfl⟩:=Ad0 hlen
  have hst:st.stage<=8:=by simp[Bi]at hrt;omega
  obtain⟨hx,rfl⟩:=Agj hr
  have hnm:=Kz hx
  rw[<-hE]at hnm
  have hl':B6 (Bl 8 a [Cn (Bo st.c.ents).points a] (Bo st.c.ents))=B6 (Bo st.c.ents)++ [[.str Vt,.str a]]:=by
   rw[<-hE]at hF ⊢
   show [.str J2,.str E.name,.num E.tol]::(E.points.map Hi++Ew E++E.gaps.map (Ed E)++E.edges.map (D5 E)++(E.first++ [Cn E.points a]).map (Ev E)++E.last.map (Et E))=_
   unfold B6
   rw[hF.l (by omega),List.map_append,List.map_singleton]
   unfold Ev
   rw[hnm]
   simp
  refine⟨Ml (k:=8) (by decide) (by decide) rfl ?_,?_⟩
  ·rw[<-hE]at hF ⊢
   show gQ (Bl 8 a [Cn E.points a] E) 8
   exact⟨fun h=>absurd h (by decide),fun h=>absurd h (by decide),fun h=>absurd h (by decide),fun h=>absurd h (by decide),fun _=>hF.l (by omega)⟩
  ·refine(Lw (st:=st) (k:=8) (C':=Bf 8 a [Cn (Bo st.c.ents).points a] st.c) (by omega) (by decide) hne rfl rfl hl').trans ?_
   rw[<-hj,X6]
   simp only[B3,List.map_cons,List.map_nil,Cb,Vt]
 ·obtain⟨a,rfl⟩:=Ad0 hlen
  obtain⟨hx,rfl⟩:=Agj hr
  have hnm:=Kz hx
  rw[<-hE]at hnm
  have hl':B6 (Bl 9 a [Cn (Bo st.c.ents).points a] (Bo st.c.ents))=B6 (Bo st.c.ents)++ [[.str U5,.str a]]:=by
   rw[<-hE]at hF ⊢
   show [.str J2,.str E.name,.num E.tol]::(E.points.map Hi++Ew E++E.gaps.map (Ed E)++E.edges.map (D5 E)++E.first.map (Ev E)++(E.last++ [Cn E.points a]).map (Et E))=_
   unfold B6
   rw[List.map_append,List.map_singleton]
   unfold Et
   rw[hnm]
   simp
  refine⟨Ml (k:=9) (by decide) (by decide) rfl ?_,?_⟩
  ·exact⟨fun h=>absurd h (by decide),fun h=>absurd h (by decide),fun h=>absurd h (by decide),fun h=>absurd h (by decide),fun h=>absurd h (by decide)⟩
  ·refine(Lw (st:=st) (k:=9) (C':=Bf 9 a [Cn (Bo st.c.ents).points a] st.c) (by omega) (by decide) hne rfl rfl hl').trans ?_
   rw[<-hj,X6]
   simp only[B3,List.map_cons,List.map_nil,Cb,U5]
theorem Km(ls:List ByteArray):∀k,k<=ls.length->(∀j,j<k->B5 ls j=0)->R7 (Bg ls k)/\txt (Bg ls k)=(ls.take k).flatMap (fun s=>s.data.toList++ [10])
 |0,_,_=>⟨Aa5,by rw[List.take_zero];exact yA⟩
 |k+1,hk,h=>by
  obtain⟨h1,h2⟩:=Km ls k (by omega) (fun j hj=>h j (by omega))
  have h0:=h k (by omega)
  unfold B5 at h0
  have hd:ls.getD k ByteArray.empty=ls[k]:=by rw[List.getD_eq_getElem?_getD,List.getElem?_eq_getElem (by omega)];rfl
  rw[hd]at h0
  have hq:A8 (Bg ls k) ls[k]=(0,Bg ls (k+1)):=by
   show _=(0,(A8 (Bg ls k) (ls.getD k ByteArray.empty)).2)
   rw[hd]
   exact Prod.ext h0 rfl
  obtain⟨h3,h4⟩:=Adm h1 hq
  refine⟨h3,?_⟩
  rw[h4,h2,List.take_succ_eq_append_getElem (by omega),List.flatMap_append,List.flatMap_singleton]
theorem Nm(c:UInt8):∀(L:List (List UInt8)),L≠ []->L.flatMap (fun s=>s++ [c])=Cb c L++ [c]
 |[],h=>absurd rfl h
 |[p],_=>by simp[Cb]
 |p::q::ps,_=>by
  have:=Nm c (q::ps) (by simp)
  rw[List.flatMap_cons,this]
  simp[Cb]
theorem yC{s:ByteArray}(h8:¬8000<s.size)(h1:(Lr (Ao s)).1=0)(h2:¬(Bg (Ao s) (Ao s).length).stage<2):
  Df (Bg (Ao s) (Ao s).length).c=(C4 s).data.toList++ [10]:=by
 have hall:∀j,j<(Ao s).length->B5 (Ao s) j=0:=by
  intro j hj
  cases hz:B5 (Ao s) j with
  |zero=>rfl
  |succ n=>
   exfalso
   have hmin:∃k,k<(Ao s).length/\B5 (Ao s) k≠0/\∀i,i<k->B5 (Ao s) i=0:=by
    have:∀n,(∃k,k<n/\k<(Ao s).length/\B5 (Ao s) k≠0)->∃k,k<(Ao s).length/\B5 (Ao s) k≠0/\∀i,i<k->B5 (Ao s) i=0:=by
     intro n
     induction n with
     |zero=>rintro⟨k,hk,_⟩;omega
     |succ n ih=>
      rintro⟨k,hk,hl,hh⟩
      by_cases he:∃k,k<n/\k<(Ao s).length/\B5 (Ao s) k≠0
      ·exact ih he
      ·refine⟨k,hl,hh,fun i hi=>?_⟩
       by_cases hi0:B5 (Ao s) i=0
       ·exact hi0
       ·exact absurd ⟨i,by omega,by omega,hi0⟩ he
    exact this (j+1) ⟨j,by omega,hj,by rw[hz];simp⟩
   obtain⟨k,a,b,c⟩:=hmin
   rw[Na a b c]at h1
   exact b h1
 obtain⟨hI,ht⟩:=Km (Ao s) (Ao s).length (Nat.le_refl _) hall
 rw[List.take_length]at ht
 have hne:Ao s≠ []:=by
  intro e
  rw[e]at h2
  exact h2 (by decide)
 have hcut:Ao s=Bj 10 (C4 s):=by
  unfold Ao at hne ⊢
  split at hne
  ·exact absurd rfl hne
  ·next h0=>rw[if_neg h0]
 have e1:txt (Bg (Ao s) (Ao s).length)=Df (Bg (Ao s) (Ao s).length).c:=by
  unfold txt rS Df Hm
  rw[Pj (by omega),B4]
  show Aq _++_=Aq _++_
  unfold Aq
  rw[List.flatMap_assoc]
 rw[<-e1,ht]
 have e2:=Nm 10 ((Ao s).map (·.data.toList)) (by simpa using hne)
 rw[List.flatMap_map]at e2
 rw[e2,hcut,El,Mm]
end Go.Proofs.YtikehilbmldadaaGreatDoor
