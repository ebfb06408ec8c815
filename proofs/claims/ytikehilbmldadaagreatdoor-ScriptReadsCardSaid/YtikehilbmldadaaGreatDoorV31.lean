import Derived.Test.YtikehilbmldadaaGreatDoorV08
import Derived.Laws.EntriesVeiled
set_option maxHeartbeats 4000000
set_option maxRecDepth 100000
set_option linter.unusedVariables false
open Go.Proofs.Tryz Go.Proofs.YtikehilbmldadaaGreatDoor.Tryz
namespace Go.Proofs.YtikehilbmldadaaGreatDoor
open Go.RowKit
def fnV(f:Nat):Value:=.func (.func f) #[] #[]
def Ku(b:Nat):Value:=.func (.func 189) #[] #[.pointer (some ⟨b,0,none⟩)]
def Ho(n:Int)(f:Value):Value:=.agg #[.int .i64 n,f]
theorem M5(f:Nat)(w:World):Calls Tryz.prog 130 #[fnV f] w fun e w'=>e=.returned (Ho 0 (Ku w.heap.size))/\w'.heap[w.heap.size]? =some (.cells #[fnV f] 220)/\Below w.heap.size w w':=by
 have b1:Below w.heap.size w (w.alloc (.cells #[fnV f] 220)):=(Below.refl _ _).alloc (Nat.le_refl _) _
 have g1:=Ab w (.cells #[fnV f] 220)
 have hs:(w.alloc (.cells #[fnV f] 220)).heap.size=w.heap.size+1:=by simp
 unfold fnV at b1 g1 hs ⊢
 unfold Ho Ku
 go_enter func130,ntmps130
 go_upto_region 1 with fail
 generalize w.alloc _=w1 at b1 g1 hs ⊢
 have b2:Below w1.heap.size w1 (w1.alloc (.cells #[.int .i64 0,.nilFunc] 163)):=(Below.refl _ _).alloc (Nat.le_refl _) _
 have g2:=Ab w1 (.cells #[.int .i64 0,.nilFunc] 163)
 have g3:=Af b2 g1 (Aa g1)
 have B2:=Aia (b1.trans (b2.mono b1.size))
 rw[hs]at g2
 clear b2 g1 b1 hs
 generalize w1.alloc _=w2 at g2 g3 B2 ⊢
 have c0:w2.cell? ⟨w.heap.size+1,0,none⟩=some (.int .i64 0):=by simp[World.cell?,g2]
 have c1:w2.cell? ⟨w.heap.size+1,1,none⟩=some .nilFunc:=by simp[World.cell?,g2]
 have cf:∀o,w2.frozen? ⟨w.heap.size+1,o,none⟩=false:=by intro o;simp[World.frozen?,g2]
 have G3:=Aia g3
 clear g2 g3
 have kv:=fun v=>(Ai w2 (w.heap.size+1) 0 (.int .i64 0)).setCell (p:=⟨w.heap.size+1,1,none⟩) (fun _=>rfl) v
 have KV:=Aia kv
 clear kv
 go_wp2_with fail
 refine bodyPost_ret (v:=.agg #[.int .i64 0,.func (.func 189) #[] #[.pointer (some ⟨w.heap.size,0,none⟩)]]) (by simp[results,results130,go_sem,c0,c1,World.cell?_setCell_same,World.cell?_setCell_other]) rfl ?_
 exact⟨rfl,by rw[(KV.out _).block _ (by have:=B2.out.size;have:=Aa G3.out;omega) (by omega)];exact G3.out,B2.out.trans ((KV.out _).below B2.out.size (fun b hb=>by omega))⟩
def Ah2:List (ByteArray × Value):=[
(⟨#[98,101,103,105,110]⟩,Ho 1 (fnV 118)),
 (⟨#[115,116,111,112]⟩,Ho 1 (fnV 120)),
 (⟨#[114,101,112,111,114,116]⟩,Ho 2 (fnV 121)),
 (⟨#[116,105,99,107]⟩,Ho 1 (fnV 122)),
 (⟨#[99,117,116]⟩,Ho 1 (fnV 124)),
 (⟨#[98,111,111,116]⟩,Ho 0 (fnV 126)),
 (⟨#[115,116,97,116,117,115]⟩,Ho 1 (fnV 128))]
def Lj(b:Nat->Nat):List (ByteArray × Value):=Ah2++ [(⟨#[110,111,119]⟩,Ho 0 (Ku (b 0))),(⟨#[107,105,99,107,115]⟩,Ho 0 (Ku (b 1))),(⟨#[116,111,116,97,108]⟩,Ho 0 (Ku (b 2))),(⟨#[115,116,97,116,101]⟩,Ho 0 (Ku (b 3))),(⟨#[99,97,117,115,101]⟩,Ho 0 (Ku (b 4))),(⟨#[108,111,103]⟩,Ho 0 (Ku (b 5))),(⟨#[99,111,110,102,105,103]⟩,Ho 0 (Ku (b 6)))]
def Y4:List Nat:=[131,132,133,134,135,138,140]
def xY(w v:World)(b:Nat->Nat)(n:Nat):Prop:=(∀i,i<n->v.heap[b i]? =some (.cells #[fnV (Y4.getD i 0)] 220)/\w.heap.size<b i)/\Below w.heap.size w v
theorem xY.next{w v s v':World}{b:Nat->Nat}{n f:Nat}(h:xY w v b n)(E:w.heap.size<v.heap.size/\s.heap[v.heap.size]? =some (.cells #[fnV f] 220)/\Below v.heap.size v s/\Ae (· =w.heap.size) s v')(hb:b n=v.heap.size)(hf:Y4.getD n 0=f):xY w v' b (n+1):=by
 obtain⟨e1,e2,e3,e4⟩:=E
 have hs:=e3.size
 refine⟨fun i hi=>?_,?_⟩
 ·by_cases hin:i<n
  ·obtain⟨g1,g2⟩:=h.1 i hin
   have l1:=Aa g1
   exact⟨by rw[e4.block _ (by omega) (by omega)];exact Af e3 g1 l1,g2⟩
  ·obtain rfl:i=n:=by omega
   rw[hb,hf]
   exact⟨by rw[e4.block _ (Aa e2) (by omega)];exact e2,e1⟩
 ·exact(h.2.trans (e3.mono (by omega))).trans (e4.below (by omega) (fun b hb=>by omega))
def Kh(k:Nat):List (ByteArray × Value):=Ah2.take k
theorem gF(w:World):Calls Tryz.prog 76 #[] w fun e w'=>∃b:Nat->Nat,e=.returned (.map (some w.heap.size))/\w'.heap[w.heap.size]? =some (Hj (Lj b))/\(∀i,i<7->w'.heap[b i]? =some (.cells #[fnV (Y4.getD i 0)] 220))/\Below w.heap.size w w':=by
 have hm:=fun(W:World)=>show(Instr.makeMap 165 none).run Tryz.prog W=.ok (.map (some W.heap.size)) (W.alloc (Hj (Kh 0)))from rfl
 have h0:=fun(W:World)=>show(Instr.mapUpdate 165 (.map (some W.heap.size)) (.string ⟨#[98,101,103,105,110]⟩) (.agg #[.int .i64 1,.func (.func 118) #[] #[]])).run Tryz.prog (W.alloc (Hj (Kh 0)))=.ok () (W.alloc (Hj (Kh 1)))from Ja underlying165 underlying9 W (Kh 0) _ _ (by decide)
 have h1:=fun(W:World)=>show(Instr.mapUpdate 165 (.map (some W.heap.size)) (.string ⟨#[115,116,111,112]⟩) (.agg #[.int .i64 1,.func (.func 120) #[] #[]])).run Tryz.prog (W.alloc (Hj (Kh 1)))=.ok () (W.alloc (Hj (Kh 2)))from Ja underlying165 underlying9 W (Kh 1) _ _ (by decide)
 have h2:=fun(W:World)=>show(Instr.mapUpdate 165 (.map (some W.heap.size)) (.string ⟨#[114,101,112,111,114,116]⟩) (.agg #[.int .i64 2,.func (.func 121) #[] #[]])).run Tryz.prog (W.alloc (Hj (Kh 2)))=.ok () (W.alloc (Hj (Kh 3)))from Ja underlying165 underlying9 W (Kh 2) _ _ (by decide)
 have h3:=fun(W:World)=>show(Instr.mapUpdate 165 (.map (some W.heap.size)) (.string ⟨#[116,105,99,107]⟩) (.agg #[.int .i64 1,.func (.func 122) #[] #[]])).run Tryz.prog (W.alloc (Hj (Kh 3)))=.ok () (W.alloc (Hj (Kh 4)))from Ja underlying165 underlying9 W (Kh 3) _ _ (by decide)
 have h4:=fun(W:World)=>show(Instr.mapUpdate 165 (.map (some W.heap.size)) (.string ⟨#[99,117,116]⟩) (.agg #[.int .i64 1,.func (.func 124) #[] #[]])).run Tryz.prog (W.alloc (Hj (Kh 4)))=.ok () (W.alloc (Hj (Kh 5)))from Ja underlying165 underlying9 W (Kh 4) _ _ (by decide)
 have h5:=fun(W:World)=>show(Instr.mapUpdate 165 (.map (some W.heap.size)) (.string ⟨#[98,111,111,116]⟩) (.agg #[.int .i64 0,.func (.func 126) #[] #[]])).run Tryz.prog (W.alloc (Hj (Kh 5)))=.ok () (W.alloc (Hj (Kh 6)))from Ja underlying165 underlying9 W (Kh 5) _ _ (by decide)
 have h6:=fun(W:World)=>show(Instr.mapUpdate 165 (.map (some W.heap.size)) (.string ⟨#[115,116,97,116,117,115]⟩) (.agg #[.int .i64 1,.func (.func 128) #[] #[]])).run Tryz.prog (W.alloc (Hj (Kh 6)))=.ok () (W.alloc (Hj (Kh 7)))from Ja underlying165 underlying9 W (Kh 6) _ _ (by decide)
 have hq:Below w.heap.size w (w.alloc (Hj (Kh 7))):=(Below.refl _ _).alloc (Nat.le_refl _) _
 have gq:=Ab w (Hj (Kh 7))
 go_enter func76,ntmps76
 go_wp2_with fail
 clear hm h0 h1 h2 h3 h4 h5 h6
 generalize w.alloc _=v0 at hq gq ⊢
 have HQ0:=Aia hq
 have GQ0:=Aia gq
 clear hq gq
 refine(M5 131 v0).mono ?_
 rintro e s0 ⟨rfl,gs0,bs0⟩
 obtain⟨v1,hr0,hm0,hk0⟩:=I9 underlying165 underlying9 s0 w.heap.size _ (Af bs0 GQ0.out (Aa GQ0.out)) ⟨#[110,111,119]⟩ (Ho 0 (Ku v0.heap.size)) (fun x hx=>(show ∀y∈([⟨#[98,101,103,105,110]⟩,⟨#[115,116,111,112]⟩,⟨#[114,101,112,111,114,116]⟩,⟨#[116,105,99,107]⟩,⟨#[99,117,116]⟩,⟨#[98,111,111,116]⟩,⟨#[115,116,97,116,117,115]⟩,⟨#[110,111,119]⟩,⟨#[107,105,99,107,115]⟩,⟨#[116,111,116,97,108]⟩,⟨#[115,116,97,116,101]⟩,⟨#[99,97,117,115,101]⟩,⟨#[108,111,103]⟩,⟨#[99,111,110,102,105,103]⟩]:List ByteArray).take 7,y≠⟨#[110,111,119]⟩ by decide) _ (List.mem_map_of_mem (f:=Prod.fst) hx))
 have GQ1:=Aia hm0
 have E0:=Aia (And.intro (Aa GQ0.out) (And.intro gs0 (And.intro bs0 hk0)))
 clear gs0 bs0 hm0 hk0
 unfold Ho Ku at hr0 ⊢
 go_wp2_with fail
 clear hr0
 refine(M5 132 v1).mono ?_
 rintro e s1 ⟨rfl,gs1,bs1⟩
 obtain⟨v2,hr1,hm1,hk1⟩:=I9 underlying165 underlying9 s1 w.heap.size _ (Af bs1 GQ1.out (Aa GQ1.out)) ⟨#[107,105,99,107,115]⟩ (Ho 0 (Ku v1.heap.size)) (fun x hx=>(show ∀y∈([⟨#[98,101,103,105,110]⟩,⟨#[115,116,111,112]⟩,⟨#[114,101,112,111,114,116]⟩,⟨#[116,105,99,107]⟩,⟨#[99,117,116]⟩,⟨#[98,111,111,116]⟩,⟨#[115,116,97,116,117,115]⟩,⟨#[110,111,119]⟩,⟨#[107,105,99,107,115]⟩,⟨#[116,111,116,97,108]⟩,⟨#[115,116,97,116,101]⟩,⟨#[99,97,117,115,101]⟩,⟨#[108,111,103]⟩,⟨#[99,111,110,102,105,103]⟩]:List ByteArray).take 8,y≠⟨#[107,105,99,107,115]⟩ by decide) _ (List.mem_map_of_mem (f:=Prod.fst) hx))
 have GQ2:=Aia hm1
 have E1:=Aia (And.intro (Aa GQ1.out) (And.intro gs1 (And.intro bs1 hk1)))
 clear gs1 bs1 hm1 hk1
 unfold Ho Ku at hr1 ⊢
 go_wp2_with fail
 clear hr1
 refine(M5 133 v2).mono ?_
 rintro e s2 ⟨rfl,gs2,bs2⟩
 obtain⟨v3,hr2,hm2,hk2⟩:=I9 underlying165 underlying9 s2 w.heap.size _ (Af bs2 GQ2.out (Aa GQ2.out)) ⟨#[116,111,116,97,108]⟩ (Ho 0 (Ku v2.heap.size)) (fun x hx=>(show ∀y∈([⟨#[98,101,103,105,110]⟩,⟨#[115,116,111,112]⟩,⟨#[114,101,112,111,114,116]⟩,⟨#[116,105,99,107]⟩,⟨#[99,117,116]⟩,⟨#[98,111,111,116]⟩,⟨#[115,116,97,116,117,115]⟩,⟨#[110,111,119]⟩,⟨#[107,105,99,107,115]⟩,⟨#[116,111,116,97,108]⟩,⟨#[115,116,97,116,101]⟩,⟨#[99,97,117,115,101]⟩,⟨#[108,111,103]⟩,⟨#[99,111,110,102,105,103]⟩]:List ByteArray).take 9,y≠⟨#[116,111,116,97,108]⟩ by decide) _ (List.mem_map_of_mem (f:=Prod.fst) hx))
 have GQ3:=Aia hm2
 have E2:=Aia (And.intro (Aa GQ2.out) (And.intro gs2 (And.intro bs2 hk2)))
 clear gs2 bs2 hm2 hk2
 unfold Ho Ku at hr2 ⊢
 go_wp2_with fail
 clear hr2
 refine(M5 134 v3).mono ?_
 rintro e s3 ⟨rfl,gs3,bs3⟩
 obtain⟨v4,hr3,hm3,hk3⟩:=I9 underlying165 underlying9 s3 w.heap.size _ (Af bs3 GQ3.out (Aa GQ3.out)) ⟨#[115,116,97,116,101]⟩ (Ho 0 (Ku v3.heap.size)) (fun x hx=>(show ∀y∈([⟨#[98,101,103,105,110]⟩,⟨#[115,116,111,112]⟩,⟨#[114,101,112,111,114,116]⟩,⟨#[116,105,99,107]⟩,⟨#[99,117,116]⟩,⟨#[98,111,111,116]⟩,⟨#[115,116,97,116,117,115]⟩,⟨#[110,111,119]⟩,⟨#[107,105,99,107,115]⟩,⟨#[116,111,116,97,108]⟩,⟨#[115,116,97,116,101]⟩,⟨#[99,97,117,115,101]⟩,⟨#[108,111,103]⟩,⟨#[99,111,110,102,105,103]⟩]:List ByteArray).take 10,y≠⟨#[115,116,97,116,101]⟩ by decide) _ (List.mem_map_of_mem (f:=Prod.fst) hx))
 have GQ4:=Aia hm3
 have E3:=Aia (And.intro (Aa GQ3.out) (And.intro gs3 (And.intro bs3 hk3)))
 clear gs3 bs3 hm3 hk3
 unfold Ho Ku at hr3 ⊢
 go_wp2_with fail
 clear hr3
 refine(M5 135 v4).mono ?_
 rintro e s4 ⟨rfl,gs4,bs4⟩
 obtain⟨v5,hr4,hm4,hk4⟩:=I9 underlying165 underlying9 s4 w.heap.size _ (Af bs4 GQ4.out (Aa GQ4.out)) ⟨#[99,97,117,115,101]⟩ (Ho 0 (Ku v4.heap.size)) (fun x hx=>(show ∀y∈([⟨#[98,101,103,105,110]⟩,⟨#[115,116,111,112]⟩,⟨#[114,101,112,111,114,116]⟩,⟨#[116,105,99,107]⟩,⟨#[99,117,116]⟩,⟨#[98,111,111,116]⟩,⟨#[115,116,97,116,117,115]⟩,⟨#[110,111,119]⟩,⟨#[107,105,99,107,115]⟩,⟨#[116,111,116,97,108]⟩,⟨#[115,116,97,116,101]⟩,⟨#[99,97,117,115,101]⟩,⟨#[108,111,103]⟩,⟨#[99,111,110,102,105,103]⟩]:List ByteArray).take 11,y≠⟨#[99,97,117,115,101]⟩ by decide) _ (List.mem_map_of_mem (f:=Prod.fst) hx))
 have GQ5:=Aia hm4
 have E4:=Aia (And.intro (Aa GQ4.out) (And.intro gs4 (And.intro bs4 hk4)))
 clear gs4 bs4 hm4 hk4
 unfold Ho Ku at hr4 ⊢
 go_wp2_with fail
 clear hr4
 refine(M5 138 v5).mono ?_
 rintro e s5 ⟨rfl,gs5,bs5⟩
 obtain⟨v6,hr5,hm5,hk5⟩:=I9 underlying165 underlying9 s5 w.heap.size _ (Af bs5 GQ5.out (Aa GQ5.out)) ⟨#[108,111,103]⟩ (Ho 0 (Ku v5.heap.size)) (fun x hx=>(show ∀y∈([⟨#[98,101,103,105,110]⟩,⟨#[115,116,111,112]⟩,⟨#[114,101,112,111,114,116]⟩,⟨#[116,105,99,107]⟩,⟨#[99,117,116]⟩,⟨#[98,111,111,116]⟩,⟨#[115,116,97,116,117,115]⟩,⟨#[110,111,119]⟩,⟨#[107,105,99,107,115]⟩,⟨#[116,111,116,97,108]⟩,⟨#[115,116,97,116,101]⟩,⟨#[99,97,117,115,101]⟩,⟨#[108,111,103]⟩,⟨#[99,111,110,102,105,103]⟩]:List ByteArray).take 12,y≠⟨#[108,111,103]⟩ by decide) _ (List.mem_map_of_mem (f:=Prod.fst) hx))
 have GQ6:=Aia hm5
 have E5:=Aia (And.intro (Aa GQ5.out) (And.intro gs5 (And.intro bs5 hk5)))
 clear gs5 bs5 hm5 hk5
 unfold Ho Ku at hr5 ⊢
 go_wp2_with fail
 clear hr5
 refine(M5 140 v6).mono ?_
 rintro e s6 ⟨rfl,gs6,bs6⟩
 obtain⟨v7,hr6,hm6,hk6⟩:=I9 underlying165 underlying9 s6 w.heap.size _ (Af bs6 GQ6.out (Aa GQ6.out)) ⟨#[99,111,110,102,105,103]⟩ (Ho 0 (Ku v6.heap.size)) (fun x hx=>(show ∀y∈([⟨#[98,101,103,105,110]⟩,⟨#[115,116,111,112]⟩,⟨#[114,101,112,111,114,116]⟩,⟨#[116,105,99,107]⟩,⟨#[99,117,116]⟩,⟨#[98,111,111,116]⟩,⟨#[115,116,97,116,117,115]⟩,⟨#[110,111,119]⟩,⟨#[107,105,99,107,115]⟩,⟨#[116,111,116,97,108]⟩,⟨#[115,116,97,116,101]⟩,⟨#[99,97,117,115,101]⟩,⟨#[108,111,103]⟩,⟨#[99,111,110,102,105,103]⟩]:List ByteArray).take 13,y≠⟨#[99,111,110,102,105,103]⟩ by decide) _ (List.mem_map_of_mem (f:=Prod.fst) hx))
 have GQ7:=Aia hm6
 have E6:=Aia (And.intro (Aa GQ6.out) (And.intro gs6 (And.intro bs6 hk6)))
 clear gs6 bs6 hm6 hk6
 unfold Ho Ku at hr6 ⊢
 go_wp2_with fail
 clear hr6
 go_ret
 refine⟨fun i=>([v0.heap.size,v1.heap.size,v2.heap.size,v3.heap.size,v4.heap.size,v5.heap.size,v6.heap.size]:List Nat).getD i 0,rfl,GQ7.out,?_⟩
 have c0:xY w v0 (fun i=>([v0.heap.size,v1.heap.size,v2.heap.size,v3.heap.size,v4.heap.size,v5.heap.size,v6.heap.size]:List Nat).getD i 0) 0:=⟨fun i hi=>by omega,HQ0.out⟩
 have c1:=c0.next E0.out rfl rfl
 have c2:=c1.next E1.out rfl rfl
 have c3:=c2.next E2.out rfl rfl
 have c4:=c3.next E3.out rfl rfl
 have c5:=c4.next E4.out rfl rfl
 have c6:=c5.next E5.out rfl rfl
 have c7:=c6.next E6.out rfl rfl
 exact⟨fun i hi=>(c7.1 i hi).1,c7.2⟩
theorem Kv(f b pb:Nat)(nv:Value)(s:ByteArray)(w:World)(he:∀args w,(callFunc f args).run Tryz.prog w=.ok (.enter f args) w)(hb:w.heap[b]? =some (.cells #[fnV f] 220))
  (hf:Calls Tryz.prog f #[.pointer (some ⟨pb,0,none⟩)] w fun e w'=>e=.returned (.string s)/\Below w.heap.size w w'):
  Calls Tryz.prog 189 #[.pointer (some ⟨pb,0,none⟩),nv,.pointer (some ⟨b,0,none⟩)] w fun e w'=>e=.returned (.tuple #[.string s,.nilIface])/\Below w.heap.size w w':=by
 have c0:w.cell? ⟨b,0,none⟩=some (.func (.func f) #[] #[]):=by simp[World.cell?,hb,fnV]
 have HF:=Aia hf
 clear hb hf
 go_enter func189,ntmps189
 go_wp2_with fail
 refine HF.out.mono ?_
 rintro e w1 ⟨rfl,hq⟩
 have HQ:=Aia hq
 clear hq HF c0
 go_wp2_with fail
 go_ret2
 exact⟨rfl,HQ.out⟩
end Go.Proofs.YtikehilbmldadaaGreatDoor
