import Derived.Test.YtikehilbmldadaaGreatDoorV16
import Derived.Test.YtikehilbmldadaaGreatDoorV06
import Derived.Lib.AppendZerosOnto
set_option maxHeartbeats 4000000
set_option maxRecDepth 100000
set_option linter.unusedVariables false
open Go.Proofs.Tryz Go.Proofs.YtikehilbmldadaaGreatDoor.Tryz
namespace Go.Proofs.YtikehilbmldadaaGreatDoor
section
open Go.RowKit
theorem Y6(w:World)(b off len cap i:Nat)(hi:i<=cap):
  (Instr.slice 22 (.slice (some ⟨b,off,none⟩) len cap) none (some (.int .i64 i)) none).run Tryz.prog w=.ok (.slice (some ⟨b,off,none⟩) i cap) w:=by
 have ht:Tryz.prog.underlying 22=some (.slice (Tryz.prog.elem 22)):=by kernel_rfl
 have hs:((sizeOf (Tryz.prog.elem 22)).run Tryz.prog w)=.ok 1 w:=by kernel_rfl
 rw[run_slice_h w 22 (some ⟨b,off,none⟩) len cap ht .i64 i (by omega) (by omega),hs]
 show Result.ok (sliced _ _ _ _ _) w=_
 unfold sliced
 simp
 intro _
 rw[Cz,Nat.add_zero]
theorem Wl(w:World)(b off len cap i:Nat)(hi:i<=cap):
  (Instr.slice 47 (.slice (some ⟨b,off,none⟩) len cap) none (some (.int .i64 i)) none).run Tryz.prog w=.ok (.slice (some ⟨b,off,none⟩) i cap) w:=by
 have ht:Tryz.prog.underlying 47=some (.slice (Tryz.prog.elem 47)):=by kernel_rfl
 have hs:((sizeOf (Tryz.prog.elem 47)).run Tryz.prog w)=.ok 2 w:=by kernel_rfl
 rw[run_slice_h w 47 (some ⟨b,off,none⟩) len cap ht .i64 i (by omega) (by omega),hs]
 show Result.ok (sliced _ _ _ _ _) w=_
 unfold sliced
 simp
 intro _
 rw[Cz,Nat.add_zero]
theorem Y7(w:World)(b off len cap i:Nat)(hi:i<=cap):
  (Instr.slice 28 (.slice (some ⟨b,off,none⟩) len cap) none (some (.int .i64 i)) none).run Tryz.prog w=.ok (.slice (some ⟨b,off,none⟩) i cap) w:=by
 have ht:Tryz.prog.underlying 28=some (.slice (Tryz.prog.elem 28)):=by kernel_rfl
 have hs:((sizeOf (Tryz.prog.elem 28)).run Tryz.prog w)=.ok 10 w:=by kernel_rfl
 rw[run_slice_h w 28 (some ⟨b,off,none⟩) len cap ht .i64 i (by omega) (by omega),hs]
 show Result.ok (sliced _ _ _ _ _) w=_
 unfold sliced
 simp
 intro _
 rw[Cz,Nat.add_zero]
theorem Ay.cut{α:Type}{f:α->List Value}{R:Nat->Prop}{w:World}{ao:Option Addr}{cap sz:Nat}{l:List α}(h:Ay R w (.slice ao l.length cap) sz (l.flatMap f) l.length)(hf:∀x,(f x).length=sz)(k:Nat)(hk:k<=l.length):Ay R w (.slice ao k cap) sz ((l.take k).flatMap f) (l.take k).length:=by
 obtain⟨hl,ao',cap',hv,h1,h2,h3,h4⟩:=h
 obtain⟨rfl,_,rfl⟩:=Value.slice.inj hv
 have e:(l.take k).length=k:=by rw[List.length_take];omega
 refine⟨Dn f sz hf _,ao,cap,by rw[e],by omega,h2,h3,fun hp=>?_⟩
 have hs:l.flatMap f=(l.take k).flatMap f++(l.drop k).flatMap f:=by rw[<-List.flatMap_append,List.take_append_drop]
 obtain⟨b,off,ha,hR,hb,hc⟩:=h4 (by rw[hs,List.length_append];omega)
 refine⟨b,off,ha,hR,hb,fun j u hj=>hc j u ?_⟩
 have hj':=(List.getElem?_eq_some_iff.1 hj).1
 rw[hs,List.getElem?_append_left hj']
 exact hj
theorem Ay.capB{R:Nat->Prop}{w:World}{ao:Option Addr}{n cap sz:Nat}{cs:List Value}(h:Ay R w (.slice ao n cap) sz cs n):(n:Int)<=(cap:Int)/\(cap:Int)<=9223372036854775807:=by
 obtain⟨_,_,_,hv,h1,h2,_⟩:=h
 obtain⟨_,_,rfl⟩:=Value.slice.inj hv
 unfold maxLen at h2
 omega
theorem Yg{R:Nat->Prop}{w:World}{ao:Option Addr}{n cap:Nat}{l:List (Int × Int)}(h:Ay R w (.slice ao n cap) 2 (l.flatMap Cd) l.length)(h0:0<l.length):
  ∃b off,ao=some ⟨b,off,none⟩/\R b/\b<w.heap.size/\∀k (hk:k<l.length),w.cell? ⟨b,off+k*2,none⟩=some (.int .i64 l[k].1)/\w.cell? ⟨b,off+k*2+1,none⟩=some (.int .i64 l[k].2):=by
 obtain⟨b,off,ha,hR,hb,hc⟩:=h.elem (fun _=>rfl) (by decide) h0
 exact⟨b,off,ha,hR,hb,fun k hk=>⟨hc k hk 0 _ rfl,hc k hk 1 _ rfl⟩⟩
theorem pT(R:Nat->Prop)(l:List (Int × Int))(v:Value)(x:Int × Int)(w:World)(h:Ay R w v 2 (l.flatMap Cd) l.length)(hR:∀b,R b->b<w.heap.size)(hl:l.length<=100000):
  Calls Tryz.prog 279 #[v,.agg #[.int .i64 x.1,.int .i64 x.2]] w fun e w'=>∃r:Int,e=.returned (.int .i64 r)/\decide (0<=r)=decide (x∈l)/\Below w.heap.size w w':=by
 obtain⟨ao,cap,rfl⟩:=h.val
 have H:=Aia h
 have heq:=Tryz.pairEqE
 unfold Zd at heq
 clear h
 go_enter func279,ntmps279
 go_wp2_with fail
 generalize hwa:w.alloc _=wa
 have hba:Below w.heap.size w wa:=by rw[<-hwa];exact(Below.refl _ _).alloc (Nat.le_refl _) _
 have hxa:wa.heap[w.heap.size]? =some (.cells #[.int .i64 x.1,.int .i64 x.2] 127):=by rw[<-hwa];exact Ab w _
 obtain⟨z0,z1,zf⟩:=Au hxa
 clear hwa hxa zf
 go_loopw [8] (fun t wr=>∃k:Nat,k<=l.length/\t=.int .i64 k/\Below w.heap.size w wr/\wr.cell? ⟨w.heap.size,0,none⟩=some (.int .i64 x.1)/\wr.cell? ⟨w.heap.size,1,none⟩=some (.int .i64 x.2)/\Hid (∀j (hj:j<l.length),j<k->l[j]≠x)) (fun t _=>l.length-(intOf t).toNat)
 case atStart=>exact⟨0,Nat.zero_le _,rfl,hba,z0,z1,fun j hj h=>by omega⟩
 case round=>
  obtain⟨k,hk,rfl,hbl,c0,c1,hall⟩:=hrel
  clear hba z0 z1
  by_cases hkl:k<l.length
  ·obtain⟨b,off,rfl,hRb,_,hc⟩:=Yg H.out (by omega)
   obtain⟨q0,q1⟩:=hc k hkl
   rw[<-hbl.cell (hR b hRb)]at q0 q1
   clear hc
   by_cases hn:x=l[k]
   ·have hq:=fun W=>heq W x.1 x.2 l[k].1 l[k].2
    rw[decide_eq_true (show(x.1,x.2)=(l[k].1,l[k].2)from hn)]at hq
    have HB:Hid (x∈l):=hn▸List.getElem_mem hkl
    clear hn hall heq
    go_wp2_with fail
    go_quiet (fail)
    go_wp2_with fail
    go_ret
    exact⟨_,rfl,by rw[decide_eq_true HB.out];exact decide_eq_true (by omega),Ag _ hbl⟩
   ·have hq:=fun W=>heq W x.1 x.2 l[k].1 l[k].2
    rw[decide_eq_false (show ¬(x.1,x.2)=(l[k].1,l[k].2)from hn)]at hq
    have nx:Hid (∀j (hj:j<l.length),j<k+1->l[j]≠x):=Aia (fun j hj h=>by
     by_cases e:j=k
     ·subst e;exact fun e=>hn e.symm
     ·exact hall.out j hj (by omega))
    clear hn hall heq
    go_wp2_with fail
    go_quiet (fail)
    go_wp2_with fail
    go_roundw
    case rel=>exact⟨k+1,by omega,by go_num,Ag _ hbl,c0,c1,nx⟩
    case measure=>simp[intOf];omega
  ·have HB:Hid (x∉l):=Aia (fun hx=>by
    obtain⟨j,hj,e⟩:=List.mem_iff_getElem.1 hx
    exact hall.out j hj (by omega) e)
   clear hall heq
   go_wp2_with fail
   go_ret
   exact⟨_,rfl,by rw[decide_eq_false HB.out];rfl,hbl⟩
theorem qX(R:Nat->Prop)(l:List (Int × Int))(v:Value)(x:Int × Int)(w:World)(h:Ay R w v 2 (l.flatMap Cd) l.length)(hR:∀b,R b->b<w.heap.size)(hl:l.length<=100000):
  Calls Tryz.prog 246 #[v,.agg #[.int .i64 x.1,.int .i64 x.2]] w fun e w'=>e=.returned (.bool (decide (x∈l)))/\Below w.heap.size w w':=by
 obtain⟨ao,cap,rfl⟩:=h.val
 have b0:Below w.heap.size w (w.alloc (.cells #[.int .i64 x.1,.int .i64 x.2] 127)):=(Below.refl _ _).alloc (Nat.le_refl _) _
 have H:=Aia (pT R l _ x _ (h.below b0 hR) (Du hR b0) hl)
 have B0:=Aia b0
 clear h b0
 go_enter func246,ntmps246
 go_wp2_with fail
 refine H.out.mono ?_
 rintro e w' ⟨r,rfl,hr,hb0⟩
 have hb:=B0.out.trans (hb0.mono B0.out.size)
 clear hb0
 have HR:=Aia hr
 clear hr
 go_wp2_with fail
 go_ret
 exact⟨Ah HR.out,hb⟩
theorem Ub(R:Nat->Prop)(l:List Int)(v:Value)(w:World)(h:Ay R w v 1 (Ac l) l.length)(hn:l.length<=100000):
  Calls Tryz.prog 212 #[v] w fun e w'=>e=.returned (.bool (Gl l))/\w=w':=by
 obtain⟨ao,cap,rfl⟩:=h.val
 have H:=Aia h
 obtain⟨hc1,hc2⟩:=h.capB
 clear h
 go_enter func212,ntmps212
 go_wp2_with fail
 go_loop [7] (fun s=>∃i:Nat,i<=l.length/\s=.int .i64 i/\Hid (∀j (hj:j<l.length),j<i->l[j]∉l.take j)) (fun s=>l.length-(intOf s).toNat)
 case atStart=>exact⟨0,Nat.zero_le _,rfl,fun j _ h=>by omega⟩
 case round=>
  obtain⟨i,hi,rfl,hall⟩:=hrel
  by_cases hlt:i<l.length
  ·obtain⟨b,off,rfl,_,_,hc⟩:=Kn H.out (by omega)
   have q1:=hc i hlt
   have HT:=Aia (Jg R (l.take i) (.slice (some ⟨b,off,none⟩) i cap) l[i] w (H.out.take i (by omega)))
   have hi2:(i:Int)<=(cap:Int):=by omega
   have hsub:=fun W=>M6 W b off l.length cap i (by omega)
   clear hc
   by_cases ht:l[i]∈l.take i
   ·rw[decide_eq_true ht]at HT
    have hbad:=Aia (Uc i hlt ht)
    clear ht hall
    go_wp2_with fail
    refine HT.out.mono ?_
    rintro e w' ⟨rfl,rfl⟩
    go_wp2_with fail
    go_ret
    exact⟨Ah hbad.out.symm,rfl⟩
   ·rw[decide_eq_false ht]at HT
    have nx:Hid (∀j (hj:j<l.length),j<i+1->l[j]∉l.take j):=Aia (fun j hj hji=>by
     by_cases e:j=i
     ·subst e;exact ht
     ·exact hall.out j hj (by omega))
    clear ht hall
    go_wp2_with fail
    refine HT.out.mono ?_
    rintro e w' ⟨rfl,rfl⟩
    go_wp2_with fail
    go_round
    case rel=>exact⟨i+1,by omega,by go_num,nx⟩
    case measure=>simp[intOf];omega
  ·have hgood:=Aia (S4 (l:=l) (fun j hj=>hall.out j hj (by omega)))
   clear hall
   go_wp2_with fail
   go_ret
   exact⟨Ah hgood.out.symm,rfl⟩
theorem rT(R:Nat->Prop)(l:List (Int × Int))(v:Value)(w:World)(h:Ay R w v 2 (l.flatMap Cd) l.length)(hR:∀b,R b->b<w.heap.size)(hn:l.length<=100000):
    Calls Tryz.prog 211 #[v] w fun e w'=>e=.returned (.bool (Ea l))/\Below w.heap.size w w':=by
  obtain⟨ao,cap,rfl⟩:=h.val
  have H:=Aia h
  obtain⟨hc1,hc2⟩:=h.capB
  clear h
  go_enter func211,ntmps211
  go_wp2_with fail
  go_loopw [7] (fun s wr=>∃i:Nat,i<=l.length/\s=.int .i64 i/\Below w.heap.size w wr/\Hid (∀j (hj:j<l.length),j<i->l[j]∉l.take j)) (fun s _=>l.length-(intOf s).toNat)
  case atStart=>exact⟨0,Nat.zero_le _,rfl,Below.refl _ _,fun j _ h=>by omega⟩
  case round=>
    obtain⟨i,hi,rfl,hbl,hall⟩:=hrel
    by_cases hlt:i<l.length
    · obtain⟨b,off,rfl,hRb,_,hc⟩:=Yg H.out (by omega)
      obtain⟨q0,q1⟩:=hc i hlt
      rw[<-hbl.cell (hR b hRb)]at q0 q1
      have hi2:(i:Int)<=(cap:Int):=by omega
      have hsub:=fun W=>Wl W b off l.length cap i (by omega)
      have HT:=Aia (fun W (hB:Below w.heap.size w W)=>qX R (l.take i) (.slice (some ⟨b,off,none⟩) i cap) l[i] W ((Ay.cut (f:=Cd) H.out (fun _=>rfl) i (by omega)).below hB hR) (Du hR hB) (by rw[List.length_take];omega))
      clear hc
      go_upto_region 4 with fail
      have hxb:=Ab wr (.cells #[.int .i64 l[i].1,.int .i64 l[i].2] 127)
      have hb1:Below w.heap.size w (wr.alloc (.cells #[.int .i64 l[i].1,.int .i64 l[i].2] 127)):=hbl.alloc hbl.size _
      generalize wr.alloc _=wb at hxb hb1 ⊢
      obtain⟨z0,z1,zf⟩:=Au hxb
      have hbb:=Aa hxb
      obtain⟨bb,hbq⟩:∃bb,bb=wr.heap.size:=⟨_,rfl⟩
      rw[<-hbq]at z0 z1 hbb ⊢
      clear hbq hxb zf q0 q1
      go_cut [16] (fun s wx=>s=.bool (decide (l[i]∈l.take i))/\Below w.heap.size w wx)
      case first=>
       go_region_held3 (fun w'=>∀o,w'.cell? ⟨bb,o,none⟩=wb.cell? ⟨bb,o,none⟩)
        (first|exact fun _=>rfl|exact fun o=>d1.cell (p:=⟨bb,o,none⟩) hbb)
        (first|(go_at_call 246;refine(HT.out _ ?_).mono ?_;(repeat(first|exact hb1|refine Below.drew ?_));rintro e w2 ⟨rfl,b2⟩;have d1:Below wb.heap.size wb w2:=(by repeat(first|exact Below.refl _ _|exact b2|refine Below.drew ?_|refine Below.trans ?_ b2))))
       all_goals(go_wp2_with fail;go_meet)
       all_goals exact⟨rfl,by repeat(first|exact hb1.trans (d1.mono hb1.size)|refine Below.drew ?_)⟩
      case rest=>
      obtain⟨rfl,hb2⟩:=hcut
      clear z0 z1 HT hb1
      by_cases ht:l[i]∈l.take i
      · rw[decide_eq_true ht]
        have hbad:=Aia (O6 i hlt ht)
        clear ht hall
        go_wp2_with fail
        go_ret
        exact⟨Ah hbad.out.symm,hb2⟩
      · rw[decide_eq_false ht]
        have nx:Hid (∀j (hj:j<l.length),j<i+1->l[j]∉l.take j):=Aia (fun j hj hji=>by
          by_cases e:j=i
          · subst e;exact ht
          · exact hall.out j hj (by omega))
        clear ht hall
        go_wp2_with fail
        go_roundw
        case rel=>exact⟨i+1,by omega,by go_num,hb2,nx⟩
        case measure=>simp[intOf];omega
    · have hgood:=Aia (N2 (l:=l) (fun j hj=>hall.out j hj (by omega)))
      clear hall
      go_wp2_with fail
      go_ret
      exact⟨Ah hgood.out.symm,hbl⟩
end
section
open Go.RowKit
theorem Xi{P:List ByteArray}{k:Nat}(hk:k<P.length):Cj (P.take k) P[k]=decide (C9 P P[k]<k):=by
 unfold C9
 cases h:P.findIdx? (fun y=>y.toList==P[k].toList)with
 |none=>
  rw[List.findIdx?_eq_none_iff]at h
  have:=h P[k] (List.getElem_mem hk)
  simp at this
 |some i=>
  rw[List.findIdx?_eq_some_iff_getElem]at h
  obtain⟨hi,he,hmin⟩:=h
  by_cases hik:i<k
  ·rw[decide_eq_true (by simp only;omega)]
   exact Ni i (by rw[List.length_take];omega) (by simpa using he)
  ·rw[decide_eq_false (by simp only;omega)]
   exact Ox (fun j hj=>by
    rw[List.length_take]at hj
    have:=hmin j (by omega)
    simpa using this)
theorem Add{P:List ByteArray}{k:Nat}(hk:k<P.length)(h:Bk P[k]=false):ptE P k=4:=by rw[Ux hk,if_pos h]
theorem Xu{P:List ByteArray}{k:Nat}(hk:k<P.length)(h:Bk P[k]=true)(h2:Cj (P.take k) P[k]=true):ptE P k=6:=by
 rw[Xi hk]at h2
 rw[Ux hk,if_neg (by rw[h];decide),if_pos (of_decide_eq_true h2)]
theorem Ade{P:List ByteArray}{k:Nat}(hk:k<P.length)(h:Bk P[k]=true)(h2:Cj (P.take k) P[k]=false):ptE P k=0:=by
 rw[Xi hk]at h2
 rw[Ux hk,if_neg (by rw[h];decide),if_neg (of_decide_eq_false h2)]
theorem Ay.cutS{R:Nat->Prop}{w:World}{ao:Option Addr}{cap:Nat}{l:List ByteArray}(h:Ay R w (.slice ao l.length cap) 1 (Ad l) l.length)(k:Nat)(hk:k<=l.length):Ay R w (.slice ao k cap) 1 (Ad (l.take k)) (l.take k).length:=by
 rw[<-Ss]at h ⊢
 exact Ay.cut (f:=fun x=>[Value.string x]) h (fun _=>rfl) k hk
theorem tI(B:Nat)(sa:Nat->Addr)(R:Nat->Prop)(l:List ByteArray)(v:Value)(w:World)(hS:Fv B sa w)(h:Ay R w v 1 (Ad l) l.length)(hR:∀b,R b->b<w.heap.size)(hn:l.length<=100000):
  Calls Tryz.prog 166 #[v] w fun e w'=>e=.returned (errv sa (Ij l))/\Below w.heap.size w w':=by
 obtain⟨ao,cap,rfl⟩:=h.val
 have H:=Aia h
 have HS:=Aia hS
 obtain⟨hc1,hc2⟩:=h.capB
 clear h hS
 go_enter func166,ntmps166
 go_wp2_with fail
 go_loopw [7] (fun s wr=>∃i:Nat,i<=l.length/\s=.int .i64 i/\Below w.heap.size w wr/\Hid (∀j,j<i->ptE l j=0)) (fun s _=>l.length-(intOf s).toNat)
 case atStart=>exact⟨0,Nat.zero_le _,rfl,Below.refl _ _,fun j h=>by omega⟩
 case round=>
  obtain⟨i,hi,rfl,hbl,hall⟩:=hrel
  by_cases hlt:i<l.length
  ·obtain⟨b,off,rfl,hRb,_,hc⟩:=Eh H.out (by omega)
   have q:=hc i hlt
   rw[<-hbl.cell (hR b hRb)]at q
   have HN:=Aia (Ry l[i] wr)
   clear hc
   cases hn1:Bk l[i]
   ·rw[hn1]at HN
    have HP:=Aia (show Ij l=4 from by
     have e:=Add hlt hn1
     rw[Mg hlt (by rw[e];decide) hall.out,e])
    clear hn1 hall
    go_wp2_with fail
    refine HN.out.mono ?_
    rintro e w1 ⟨rfl,b1⟩
    have hb1:=hbl.trans (b1.mono hbl.size)
    obtain⟨_,_,_,g3,_,_⟩:=(HS.out.on hb1).all
    go_wp2_with fail
    go_ret
    rw[HP.out]
    exact⟨rfl,hb1⟩
   ·rw[hn1]at HN
    have hi2:(i:Int)<=(cap:Int):=by omega
    have hsub:=fun W=>Y6 W b off l.length cap i (by omega)
    have HC:=Aia (fun W (hB:Below w.heap.size w W)=>Jf R (l.take i) (.slice (some ⟨b,off,none⟩) i cap) l[i] W ((H.out.cutS i (by omega)).below hB hR))
    cases ht:Cj (l.take i) l[i]
    ·rw[ht]at HC
     have nx:Hid (∀j,j<i+1->ptE l j=0):=Aia (fun j hj=>by
      by_cases e:j=i
      ·subst e;exact Ade hlt hn1 ht
      ·exact hall.out j (by omega))
     clear hn1 ht hall
     go_wp2_with fail
     refine HN.out.mono ?_
     rintro e w1 ⟨rfl,b1⟩
     have hb1:=hbl.trans (b1.mono hbl.size)
     clear b1 q
     go_wp2_with fail
     refine(HC.out w1 hb1).mono ?_
     rintro e w' ⟨rfl,rfl⟩
     go_wp2_with fail
     go_roundw
     case rel=>exact⟨i+1,by omega,by go_num,hb1,nx⟩
     case measure=>simp[intOf];omega
    ·rw[ht]at HC
     have HP:=Aia (show Ij l=6 from by
      have e:=Xu hlt hn1 ht
      rw[Mg hlt (by rw[e];decide) hall.out,e])
     clear hn1 ht hall
     go_wp2_with fail
     refine HN.out.mono ?_
     rintro e w1 ⟨rfl,b1⟩
     have hb1:=hbl.trans (b1.mono hbl.size)
     clear b1 q
     go_wp2_with fail
     refine(HC.out w1 hb1).mono ?_
     rintro e w' ⟨rfl,rfl⟩
     obtain⟨_,_,_,_,_,g5⟩:=(HS.out.on hb1).all
     go_wp2_with fail
     go_ret
     rw[HP.out]
     exact⟨rfl,hb1⟩
  ·have HP:=Aia (Xt (P:=l) (fun j hj=>hall.out j (by omega)))
   clear hall
   go_wp2_with fail
   go_ret
   rw[HP.out]
   exact⟨rfl,hbl⟩
end
section
open Go.RowKit
theorem Wo(n:Nat)(h0:0<n)(hn:n<=1000000)(w:World):∃cap w',(∀ty,(Builtin.append_ #[48,3] ty #[.slice none 0 0,.int .i64 n]).run Tryz.prog w=.ok (.slice (some ⟨w.heap.size,0,none⟩) n cap) w')/\n<=cap/\cap<=9223372036854775807/\
  w'.ownsRow w.heap.size 3 1 (.slice (some ⟨w.heap.size,0,none⟩) 0 cap) 0 []/\Below w.heap.size w w':=by
 obtain⟨i0,hi0,hz0,hz1,hz2⟩:=info_parts infoInt
 have hG:=grownCap_ge w (0+n) 0 3
 have hG2:=grownCap_le_maxLen w (0+n) 0 3 (by unfold maxLen;omega)
 have hr:=fun ty=>Lib.run_append_grow_zeros w 48 3 ty 3 i0 (.int .i64 0) .i64 .i64 underlying48 underlying3 hi0 hz0 none 0 0 [] (run_firstCells_none w.drew i0.size 0 0 0) n h0 (by rw[hz1];decide) (by omega) (by omega) (by rw[hz2];omega) (growslice_fits (by omega) (by rw[hz2];omega))
 rw[Nat.zero_add]at hr hG hG2
 refine⟨_,_,hr,hG,hG2,⟨rfl,.inr ⟨_,_,_,rfl,Nat.le_refl _,Ab _ _,Nat.zero_le _,hG2,?_,by simp⟩⟩,((Below.refl _ _).drew).alloc (Nat.le_refl _) _⟩
 simp only[Builtin.zeroCells,Array.size_append,Array.size_map,Array.size_range,show(Value.int IntKind.i64 0).cells.size=1 from rfl,List.size_toArray,List.length_nil]
 omega
theorem Aeg(n:Nat)(hn:n<=1000000)(w:World):
  Calls Tryz.prog 277 #[.slice none 0 0,.int .i64 n] w fun e w'=>∃ao cap,e=.returned (.slice ao 0 cap)/\w'.ownsRow w.heap.size 3 1 (.slice ao 0 cap) 0 []/\Below w.heap.size w w':=by
 by_cases h0:n=0
 ·subst h0
  go_enter func277,ntmps277
  go_wp2_with fail
  go_ret
  exact⟨_,_,rfl,World.ownsRow_nil _ _ _ _,Below.refl _ _⟩
 ·have hpos:0<(n:Int):=by omega
  have hnn:¬(n:Int)<0:=by omega
  obtain⟨cap,w1,hrz,hc1,hc2,hown,hb⟩:=Wo n (by omega) hn w
  have hsl:∀W:World,(Instr.slice 48 (.slice (some ⟨w.heap.size,0,none⟩) n cap) none (some (.int .i64 0)) none).run Tryz.prog W=.ok (.slice (some ⟨w.heap.size,0,none⟩) 0 cap) W:=fun W=>M6 W w.heap.size 0 n cap 0 (Nat.zero_le _)
  have HO:=Aia hown
  have HB:=Aia hb
  have hz0:(Instr.slice 48 (.slice none 0 0) none (some (.int .i64 0)) none).run Tryz.prog w=.ok (.slice none 0 0) w:=by
   have ht:Tryz.prog.underlying 48=some (.slice (Tryz.prog.elem 48)):=by kernel_rfl
   have hs:((sizeOf (Tryz.prog.elem 48)).run Tryz.prog w)=.ok 1 w:=by kernel_rfl
   rw[run_slice_h w 48 none 0 0 ht .i64 0 (by omega) (by omega),hs]
   show Result.ok (sliced _ _ _ _ _) w=_
   unfold sliced
   simp
  clear hown hb h0
  go_enter func277,ntmps277
  go_wp2_with (at_builtin;refine Lib.wpList_append_run _ rfl _ _ _ _ rfl _ _ rfl rfl _ _ (hrz _) ?_)
  all_goals
   go_ret
   exact⟨_,_,rfl,HO.out,HB.out⟩
def Ms(a b:List Int)(k:Nat):List Int:=if k=0 then [] else if k=1 then a else a++b
def el2{α:Type}(a b:α)(k:Nat):α:=if k=0 then a else b
theorem Yl(a b:List Int)(k:Nat)(hk:k<2):Ms a b (k+1)=Ms a b k++el2 a b k:=by
 match k,hk with
 |0,_=>simp[Ms,el2]
 |1,_=>simp[Ms,el2]
theorem rE(a b:List Int)(k:Nat)(h1:2<=k):Ms a b k=a++b:=by
 unfold Ms
 rw[if_neg (by omega),if_neg (by omega)]
theorem Ahc{R:Nat->Prop}{w:World}{a b:List Int}{va vb:Value}(ha:Ay R w va 1 (Ac a) a.length)(hb:Ay R w vb 1 (Ac b) b.length)(k:Nat):Ay R w (el2 va vb k) 1 (Ac (el2 a b k)) (el2 a b k).length:=by
 unfold el2
 by_cases h:k=0
 ·simp only[if_pos h];exact ha
 ·simp only[if_neg h];exact hb
theorem Aem{w:World}{cb:Nat}{va vb:Value}(h0:w.cell? ⟨cb,0,none⟩=some va)(h1:w.cell? ⟨cb,1,none⟩=some vb)(k:Nat)(hk:k<2):w.cell? ⟨cb,k,none⟩=some (el2 va vb k):=by
 match k,hk with
 |0,_=>exact h0
 |1,_=>exact h1
theorem Afa{a b:List Int}(la:a.length<=1000)(lb:b.length<=1000)(k:Nat):(Ms a b k).length<=2000:=by
 unfold Ms
 split
 ·simp
 ·split
  ·omega
  ·rw[List.length_append];omega
theorem Age{a b:List Int}(la:a.length<=1000)(lb:b.length<=1000)(k:Nat):(el2 a b k).length<=1000:=by
 unfold el2
 split<;>omega
theorem wU(R:Nat->Prop)(a b:List Int)(va vb:Value)(cb:Nat)(w:World)(ha:Ay R w va 1 (Ac a) a.length)(hb:Ay R w vb 1 (Ac b) b.length)(hR:∀b,R b->b<w.heap.size)(h0:w.cell? ⟨cb,0,none⟩=some va)(h1:w.cell? ⟨cb,1,none⟩=some vb)(la:a.length<=1000)(lb:b.length<=1000):
  Calls Tryz.prog 242 #[.slice (some ⟨cb,0,none⟩) 2 2] w fun e w'=>∃ao cap,e=.returned (.slice ao (a++b).length cap)/\w'.ownsRow w.heap.size 3 1 (.slice ao (a++b).length cap) (a++b).length (Ac (a++b))/\Below w.heap.size w w':=by
 obtain⟨i0,hi0,hz0,hz1,hz2⟩:=info_parts infoInt
 have HQ:=Aia (Aem h0 h1)
 have hcb:=World.block_lt_of_cell? _ ⟨cb,0,none⟩ h0
 have HS:=Aia (Ahc ha hb)
 have HCL:=Aia (Afa la lb)
 have HEL:=Aia (Age la lb)
 simp only at hcb
 obtain⟨c,hc⟩:∃c,c=a++b:=⟨_,rfl⟩
 have HC:=Aia hc
 have hcl:c.length<=2000:=by rw[hc,List.length_append];omega
 rw[<-hc]
 clear hc ha hb h0 h1
 go_enter func242,ntmps242
 go_wp2_with fail
 go_loop [3,11] (fun s3 s11=>∃k:Nat,k<=2/\s3=.int .i64 (Ms a b k).length/\s11=.int .i64 k) (fun _ s=>2-(intOf s).toNat)
 case atStart=>exact⟨0,Nat.zero_le _,rfl,rfl⟩
 case round=>
  obtain⟨k,hk,rfl,rfl⟩:=hrel
  by_cases hlt:k<2
  ·have hlt2:(k:Int)<2:=by omega
   have q:=HQ.out k hlt
   obtain⟨xa,xc,hv⟩:=(HS.out k).val
   rw[hv]at q
   have hl1:=HCL.out k
   have hl2:=HEL.out k
   have hsu:Hid (((Ms a b k).length:Int)+((el2 a b k).length:Int)=((Ms a b (k+1)).length:Nat)):=by
    show((Ms a b k).length:Int)+((el2 a b k).length:Int)=((Ms a b (k+1)).length:Nat)
    rw[Yl a b k hlt,List.length_append];omega
   clear hv
   generalize(el2 a b k).length=m at q hl2 hsu
   generalize(Ms a b k).length=n at hl1 hsu ⊢
   go_wp2_with fail
   go_round
   case rel=>exact⟨k+1,by omega,by rw[hsu.out],by go_num⟩
   case measure=>simp[intOf];omega
  ·have hlt2:(2:Int)<=k:=by omega
   have hk2:=(rE a b k (by omega)).trans HC.out.symm
   rw[hk2]
   have HG:=Aia (Aeg c.length (by omega) w)
   clear hk2
   go_wp2_with fail
   refine HG.out.mono ?_
   rintro e w1 ⟨go1,gc1,rfl,hown,hb1⟩
   have HO1:=Aia hown
   clear HG hown
   go_wp2_with fail
   go_loopw [6,27] (fun s6 s27 wr=>∃(j:Nat) (ao:Option Addr) (cap:Nat),j<=2/\s6=.slice ao (Ms a b j).length cap/\s27=.int .i64 j/\Below w.heap.size w wr/\Hid (wr.ownsRow w.heap.size 3 1 (.slice ao (Ms a b j).length cap) (Ms a b j).length (Ac (Ms a b j)))) (fun _ s _=>2-(intOf s).toNat)
   case atStart=>exact⟨0,go1,gc1,Nat.zero_le _,rfl,rfl,hb1,HO1⟩
   case round=>
    obtain⟨j,ao,cap,hj,rfl,rfl,hbl,hown⟩:=hrel
    clear HO1 hb1
    by_cases hjl:j<2
    ·have hjl2:(j:Int)<2:=by omega
     have q:=HQ.out j hjl
     rw[<-hbl.cell (p:=⟨cb,j,none⟩) hcb]at q
     have hsl:=(HS.out j).below hbl hR
     obtain⟨xa,xc,hv⟩:=hsl.val
     rw[hv]at q hsl
     have HSL:=Aia hsl
     have hl1:=HCL.out j
     have hl2:=HEL.out j
     have hsu:=Aia (Yl a b j hjl)
     clear hv hsl
     obtain⟨n,hn⟩:∃n,n=(Ms a b j).length:=⟨_,rfl⟩
     obtain⟨m,hm⟩:∃m,m=(el2 a b j).length:=⟨_,rfl⟩
     rw[<-hm]at q hl2 HSL
     rw[<-hn]at hl1 hown ⊢
     have HN:=Aia hn
     have HM:=Aia hm
     clear hn hm
     go_wp2_with (at_builtin;go_must (refine Il rfl (.tmp 31) (.tmp 32) 48 rfl w.heap.size 3 i0 _ 1 8 underlying48 hi0 hz0 hz1 hz2 rfl (by decide) _ n _ rfl hown.out R _ m (Ac (el2 a b j)) rfl HSL.out (Ff _) (by unfold maxLen;omega) (by omega) hbl.size ?_;intro a1 k1 w6 ho6 hg6))
     have hb6:Below w.heap.size w w6:=hbl.trans (rG hg6 (fun b hb=>(hown.out.lt b hb).1) hbl.size)
     rw[<-Kf,<-hsu.out]at ho6
     have e6:n+m=(Ms a b (j+1)).length:=by rw[hsu.out,List.length_append,HN.out,HM.out]
     rw[e6]at ho6 ⊢
     have HO6:=Aia ho6
     clear ho6 hg6 e6 HSL hown q
     go_roundw
     case rel=>exact⟨j+1,a1,k1,by omega,rfl,by go_num,hb6,HO6⟩
     case measure=>simp[intOf];omega
    ·have hjl2:(2:Int)<=j:=by omega
     have hj2:=(rE a b j (by omega)).trans HC.out.symm
     rw[hj2]at hown ⊢
     clear hj2
     go_wp2_with fail
     go_ret
     exact⟨_,_,rfl,hown.out,hbl⟩
end
section
open Go.RowKit
structure ST (w0:World) (R:Nat->Prop) (E:Ap) (vp vg ve vf vl:Value) (eb base:Nat) (acc:List Int) (ao:Option Addr) (cap:Nat) (w:World):Prop where
 ebx:EB w0 R E vp vg ve vf vl eb w
 nb:w.heap[eb+1]? =some (.cells #[.int .i64 E.points.length] 3)
 own:w.ownsRow base 3 1 (.slice ao acc.length cap) acc.length (Ac acc)
 lay:eb+2<=base/\base<=w.heap.size
theorem ST.step{w0 wr wA w1:World}{R:Nat->Prop}{E:Ap}{vp vg ve vf vl:Value}{eb base n:Nat}{acc acc':List Int}{ao a1:Option Addr}{cap k1:Nat}{x y:Int}(h:ST w0 R E vp vg ve vf vl eb base acc ao cap wr)(kA:Ae (fun _=>False) wr wA)(hn:n=acc.length)(ha:acc'=acc++ [x,y])
  (hg:wA.grownBy w1 (Value.slice ao n cap).ownBlock) (ho1:w1.ownsRow base 3 1 (.slice a1 (n+2) k1) (n+2) (Ac acc++ [.int .i64 x,.int .i64 y])):n+2=acc'.length/\ST w0 R E vp vg ve vf vl eb base acc' a1 k1 w1:=by
 subst hn
 have hl:acc.length+2=acc'.length:=by rw[ha,List.length_append];rfl
 have hlay:=h.lay
 have kk:Ae (fun b=>base<=b) wr w1:=(kA.mono (fun _ _ h=>h.elim)).trans ((Ae.of_grown hg).mono (fun b hb hs=>(h.own.lt _ hs.symm).1))
 refine⟨hl,h.ebx.keep kk (fun b hb _=>by have:=h.ebx.hi;omega),kk.get h.nb (by omega),?_,hlay.1,Nat.le_trans hlay.2 kk.size⟩
 rw[<-hl,ha,Kf]
 exact ho1
theorem Adj{w:World}{b:Nat}{c0:Value}{t:TypeId}(h:w.heap[b]? =some (.cells #[c0] t)):w.cell? ⟨b,0,none⟩=some c0:=by simp[World.cell?,h]
def Io(E:Ap):Bool:=T0 E||He E
theorem Uf(R:Nat->Prop)(E:Ap)(vp vg ve vf vl:Value)(w:World)(h:Ih R w E vp vg ve vf vl)(hR:∀b,R b->b<w.heap.size)(hE:Fx E):
  Calls Tryz.prog 204 #[.agg (A7 E vp vg ve vf vl)] w fun e w'=>e=.returned (.bool (Io E))/\Below w.heap.size w w':=by
 obtain⟨i0,hi0,hz0,hz1,hz2⟩:=info_parts infoInt
 obtain⟨e1,e2,e3,e4,e5⟩:=hE
 obtain⟨pa,pc,rfl⟩:=h.p.val
 obtain⟨ga,gc,rfl⟩:=h.g.val
 obtain⟨ea,ec,rfl⟩:=h.e.val
 obtain⟨fa,fc,rfl⟩:=h.f.val
 obtain⟨la,lc,rfl⟩:=h.l.val
 have hEB:EB w R E (.slice pa E.points.length pc) (.slice ga E.gaps.length gc) (.slice ea E.edges.length ec) (.slice fa E.first.length fc) (.slice la E.last.length lc) w.heap.size (w.alloc (.cells (A7 E (.slice pa E.points.length pc) (.slice ga E.gaps.length gc) (.slice ea E.edges.length ec) (.slice fa E.first.length fc) (.slice la E.last.length lc)) 50)):=
  ⟨Ab _ _,h.keep (Ak ((Below.refl _ _).alloc (Nat.le_refl _) _)) (fun _ _ h=>h),(Below.refl _ _).alloc (Nat.le_refl _) _,hR,Nat.le_refl _⟩
 have hs1:(w.alloc (.cells (A7 E (.slice pa E.points.length pc) (.slice ga E.gaps.length gc) (.slice ea E.edges.length ec) (.slice fa E.first.length fc) (.slice la E.last.length lc)) 50)).heap.size=w.heap.size+1:=World.size_alloc _ _
 have HRw:=Aia hR
 clear h hR
 unfold A7 at hEB hs1 ⊢
 go_enter func204,ntmps204
 go_upto_region 1 with fail
 generalize w.alloc _=w1 at hEB hs1 ⊢
 obtain⟨c0,c1,c2,c3,c4,c5,c6,c7,c8,c9⟩:=hEB.cells
 have HB1:=Aia hEB
 have HS1:=Aia hs1
 clear hEB hs1
 obtain⟨eb,heb⟩:∃eb,eb=w.heap.size:=⟨_,rfl⟩
 rw[<-heb]at c0 c1 c2 c3 c4 c5 c6 c7 c8 c9 HB1 HS1 ⊢
 have HEBQ:=Aia heb
 clear heb
 go_upto_region 2 with fail
 have hn1:=Ab w1 (.cells #[.int .i64 E.points.length] 3)
 have hb1:Below w1.heap.size w1 (w1.alloc (.cells #[.int .i64 E.points.length] 3)):=(Below.refl _ _).alloc (Nat.le_refl _) _
 have hs2:(w1.alloc (.cells #[.int .i64 E.points.length] 3)).heap.size=w1.heap.size+1:=World.size_alloc _ _
 generalize w1.alloc _=w2 at hn1 hb1 hs2 ⊢
 obtain⟨nb,hnb⟩:∃nb,nb=w1.heap.size:=⟨_,rfl⟩
 rw[<-hnb]at hn1 ⊢
 have HNB:Hid (nb=eb+1):=hnb.trans HS1.out
 have HB2:=Aia (HB1.out.below hb1)
 have HN2:=Aia hn1
 have HS2:Hid (w2.heap.size=eb+2):=Aia (by have:=HS1.out;omega)
 clear hnb hn1 hb1 hs2 c0 c1 c2 c3 c4 c5 c6 c7 c8 c9 HB1
 obtain⟨c0,c1,c2,c3,c4,c5,c6,c7,c8,c9⟩:=HB2.out.cells
 have b3:Below w2.heap.size w2 (w2.alloc (.cells #[.slice fa E.first.length fc,.slice la E.last.length lc] 48)):=(Below.refl _ _).alloc (Nat.le_refl _) _
 have hc3:=Ab w2 (.cells #[.slice fa E.first.length fc,.slice la E.last.length lc] 48)
 obtain⟨z0,z1,zf⟩:=Au hc3
 have HB3:=Aia (HB2.out.below b3)
 have HN3:=Aia (Af b3 HN2.out (Aa HN2.out))
 have HS3:=Aia (show(w2.alloc (.cells #[.slice fa E.first.length fc,.slice la E.last.length lc] 48)).heap.size=eb+3 from by rw[World.size_alloc,HS2.out])
 have HCat:=Aia (wU R E.first E.last _ _ w2.heap.size _ HB3.out.sl.f HB3.out.sl.l (fun b hb=>by have h1:=HB3.out.lo b hb;have h2:=HB3.out.bel.size;omega) z0 z1 e4 e5)
 clear z0 z1 zf hc3 b3
 go_wp2_with fail
 refine HCat.out.mono ?_
 rintro e w4 ⟨ao,cap,rfl,hown,b4⟩
 have hST:ST w R E (.slice pa E.points.length pc) (.slice ga E.gaps.length gc) (.slice ea E.edges.length ec) (.slice fa E.first.length fc) (.slice la E.last.length lc) eb (eb+3) (Hp E 0) ao cap w4:=by
  have e0:Hp E 0=E.first++E.last:=by simp[Hp]
  rw[e0]
  rw[HS3.out]at hown
  exact⟨HB3.out.below b4,by rw[<-HNB.out];exact Af b4 HN3.out (Aa HN3.out),hown,by omega,by have:=HS3.out;have:=b4.size;omega⟩
 have hl4:(E.first++E.last).length=(Hp E 0).length:=by simp[Hp]
 rw[hl4]
 have HST:=Aia hST
 clear hST hl4 hown b4 HCat HB3 HN3 HS3 HB2 HN2 HS2 c0 c1 c2 c3 c4 c5 c7 c8 c9 c6 HS1
 obtain⟨c0,c1,c2,c3,c4,c5,c6,c7,c8,c9⟩:=HST.out.ebx.cells
 go_wp2_with fail
 go_loopw [4,21] (fun s4 s21 wr=>∃(k:Nat) (ao:Option Addr) (cap:Nat),k<=E.gaps.length/\s4=.slice ao (Hp E k).length cap/\s21=.int .i64 k/\Hid (ST w R E (.slice pa E.points.length pc) (.slice ga E.gaps.length gc) (.slice ea E.edges.length ec) (.slice fa E.first.length fc) (.slice la E.last.length lc) eb (eb+3) (Hp E k) ao cap wr)) (fun _ s _=>E.gaps.length-(intOf s).toNat)
 case atStart=>exact⟨0,ao,cap,Nat.zero_le _,rfl,rfl,HST⟩
 case round=>
  obtain⟨k,ao,cap,hk,rfl,rfl,hst⟩:=hrel
  clear HST c0 c1 c2 c3 c4 c5 c6 c7 c8 c9
  by_cases hlt:k<E.gaps.length
  ·obtain⟨b,off,rfl,hRb,hb,hc⟩:=hst.out.ebx.sl.g.elem (f:=Ck) (fun _=>rfl) (by decide) (by omega)
   have q0:=hc k hlt 0 _ rfl
   have q1:=hc k hlt 1 _ rfl
   have q2:=hc k hlt 2 _ rfl
   have q3:=hc k hlt 3 _ rfl
   rw[Nat.add_zero]at q0
   have hsz:=Aia hst.out.lay
   clear hc
   go_upto_region 6 with fail
   have hxb:=Ab wr (.cells #[.int .i64 E.gaps[k].fr,.int .i64 E.gaps[k].dst,.int .i64 E.gaps[k].mn,.int .i64 E.gaps[k].mx] 126)
   have hkb:Ae (fun _=>False) wr (wr.alloc (.cells #[.int .i64 E.gaps[k].fr,.int .i64 E.gaps[k].dst,.int .i64 E.gaps[k].mn,.int .i64 E.gaps[k].mx] 126)):=(Ae.refl _ _).alloc _
   generalize wr.alloc _=wb at hxb hkb ⊢
   obtain⟨z0,z1,z2,z3⟩:=Bn hxb
   have HKB:=Aia hkb
   have HOW:=Aia (Dy hst.out.own hkb (fun _ _ _ h=>h))
   have HSZ:Hid (eb+3<=wb.heap.size):=Nat.le_trans hsz.out.2 hkb.size
   have hal:=rN E k
   obtain⟨n,hn⟩:∃n,n=(Hp E k).length:=⟨_,rfl⟩
   rw[<-hn]at hal HOW ⊢
   have HNN:=Aia hn
   clear hn hxb hkb q0 q1 q2 q3 hb hsz
   go_wp2_with (at_builtin;go_must (refine A9 rfl (.tmp 25) (.tmp 30) 48 rfl (eb+3) 3 i0 _ 1 8 underlying48 hi0 hz0 hz1 hz2 rfl (by decide) _ n _ rfl (HOW.out.alloc _) ⟨wb.heap.size,0,none⟩ 2 2 [.int .i64 E.gaps[k].fr,.int .i64 E.gaps[k].dst] rfl rfl (by exact Av _ [.int .i64 E.gaps[k].fr,.int .i64 E.gaps[k].dst] _) (by intro u hu;simp at hu;rcases hu with rfl|rfl<;>rfl) (by unfold maxLen;omega) (by omega) (by have:=HSZ.out;simp;omega) ?_;intro a1 k1 w6 ho6 hg6))
   obtain⟨hl6,hs6⟩:=hst.out.step (HKB.out.alloc _) HNN.out (Yo E k hlt) hg6 ho6
   rw[hl6]
   have HS6:=Aia hs6
   clear hl6 hs6 ho6 hg6 HOW z0 z1 z2 z3 hal
   go_roundw
   case rel=>exact⟨k+1,a1,k1,by omega,rfl,by go_num,HS6⟩
   case measure=>simp[intOf];omega
  ·obtain rfl:k=E.gaps.length:=by omega
   have e0:Hp E E.gaps.length=Lt E 0:=by simp[Hp,Lt]
   rw[e0]at hst ⊢
   have HST:=hst
   clear hst e0
   obtain⟨c0,c1,c2,c3,c4,c5,c6,c7,c8,c9⟩:=HST.out.ebx.cells
   go_wp2_with fail
   go_loopw [4,36] (fun s4 s36 wr=>∃(k:Nat) (ao:Option Addr) (cap:Nat),k<=E.edges.length/\s4=.slice ao (Lt E k).length cap/\s36=.int .i64 k/\Hid (ST w R E (.slice pa E.points.length pc) (.slice ga E.gaps.length gc) (.slice ea E.edges.length ec) (.slice fa E.first.length fc) (.slice la E.last.length lc) eb (eb+3) (Lt E k) ao cap wr)) (fun _ s _=>E.edges.length-(intOf s).toNat)
   case atStart=>exact⟨0,ao,cap,Nat.zero_le _,rfl,rfl,HST⟩
   case round=>
    obtain⟨k,ao,cap,hk,rfl,rfl,hst⟩:=hrel
    clear HST c0 c1 c2 c3 c4 c5 c6 c7 c8 c9
    by_cases hlt:k<E.edges.length
    ·obtain⟨b,off,rfl,hRb,hb,hc⟩:=hst.out.ebx.sl.e.elem (f:=Cd) (fun _=>rfl) (by decide) (by omega)
     have q0:=hc k hlt 0 _ rfl
     have q1:=hc k hlt 1 _ rfl
     rw[Nat.add_zero]at q0
     have hsz:=Aia hst.out.lay
     clear hc
     go_upto_region 11 with fail
     have hxb:=Ab wr (.cells #[.int .i64 E.edges[k].1,.int .i64 E.edges[k].2] 127)
     have hkb:Ae (fun _=>False) wr (wr.alloc (.cells #[.int .i64 E.edges[k].1,.int .i64 E.edges[k].2] 127)):=(Ae.refl _ _).alloc _
     generalize wr.alloc _=wb at hxb hkb ⊢
     obtain⟨z0,z1,zf⟩:=Au hxb
     have HKB:=Aia hkb
     have HOW:=Aia (Dy hst.out.own hkb (fun _ _ _ h=>h))
     have HSZ:Hid (eb+3<=wb.heap.size):=Nat.le_trans hsz.out.2 hkb.size
     have hal:=R5 E k
     obtain⟨n,hn⟩:∃n,n=(Lt E k).length:=⟨_,rfl⟩
     rw[<-hn]at hal HOW ⊢
     have HNN:=Aia hn
     clear hn hxb hkb q0 q1 hb hsz zf
     go_wp2_with (at_builtin;go_must (refine A9 rfl (.tmp 40) (.tmp 45) 48 rfl (eb+3) 3 i0 _ 1 8 underlying48 hi0 hz0 hz1 hz2 rfl (by decide) _ n _ rfl (HOW.out.alloc _) ⟨wb.heap.size,0,none⟩ 2 2 [.int .i64 E.edges[k].1,.int .i64 E.edges[k].2] rfl rfl (by exact Av _ [.int .i64 E.edges[k].1,.int .i64 E.edges[k].2] _) (by intro u hu;simp at hu;rcases hu with rfl|rfl<;>rfl) (by unfold maxLen;omega) (by omega) (by have:=HSZ.out;simp;omega) ?_;intro a1 k1 w6 ho6 hg6))
     obtain⟨hl6,hs6⟩:=hst.out.step (HKB.out.alloc _) HNN.out (Yp E k hlt) hg6 ho6
     rw[hl6]
     have HS6:=Aia hs6
     clear hl6 hs6 ho6 hg6 HOW z0 z1 hal
     go_roundw
     case rel=>exact⟨k+1,a1,k1,by omega,rfl,by go_num,HS6⟩
     case measure=>simp[intOf];omega
    ·obtain rfl:k=E.edges.length:=by omega
     have e0:Lt E E.edges.length=Gx E:=by simp[Lt,Gx]
     have hal:=R5 E E.edges.length
     rw[e0]at hst hal ⊢
     have HST:=hst
     clear hst e0
     obtain⟨c0,c1,c2,c3,c4,c5,c6,c7,c8,c9⟩:=HST.out.ebx.cells
     have hnn:=Adj HST.out.nb
     rw[<-HNB.out]at hnn
     have HCo:=Aia (wV _ (Gx E) _ E.points.length nb wr (E7 HST.out.own) (by omega) hnn)
     unfold kC at HCo
     have hbl:=HST.out.ebx.bel
     by_cases h1:E.count< -1
     ·have HV:=Aia (show Io E=true from by unfold Io T0;rw[decide_eq_true (.inl h1)];rfl)
      go_wp2_with fail
      go_ret
      exact⟨Ah HV.out.symm,hbl⟩
     by_cases h2:(E.points.length:Int)<=E.count
     ·have HV:=Aia (show Io E=true from by unfold Io T0;rw[decide_eq_true (.inr h2)];rfl)
      go_wp2_with fail
      go_ret
      exact⟨Ah HV.out.symm,hbl⟩
     have HV:=Aia (show Io E=(Gx E).any (Ly E.points.length)from by unfold Io T0;rw[decide_eq_false (by omega)];rfl)
     generalize(Gx E).any (Ly E.points.length)=ans at HCo HV
     go_wp2_with fail
     refine HCo.out.mono ?_
     rintro e w' ⟨rfl,rfl⟩
     go_wp2_with fail
     go_ret
     exact⟨Ah HV.out.symm,hbl⟩
end
section
open Go.RowKit
def Qo(E:Ap):Bool:=Ea E.edges||(Gl E.first||Gl E.last)
def B9(E:Ap):Nat->Bool
 |0=>Io E
 |1=>Q8 E
 |2=>Sh E
 |3=>E.gaps.any Bu
 |4=>Qo E
 |5=>s1W E
 |6=>s2W E
 |_=>false
def Ahj:Nat->Nat
 |0=>5
 |1=>3
 |2=>2
 |3=>2
 |4=>6
 |_=>3
def S5(E:Ap):Nat:=
 if B9 E 0=true then 5 else if B9 E 1=true then 3 else if B9 E 2=true then 2 else if B9 E 3=true then 2 else if B9 E 4=true then 6 else if B9 E 5=true then 3 else if B9 E 6=true then 3 else 0
theorem Ia{E:Ap}(k:Nat)(hk:k<7)(h:B9 E k=true)(hb:∀j,j<k->B9 E j=false):S5 E=Ahj k:=by
 unfold S5
 match k,hk with
 |0,_=>rw[h];rfl
 |1,_=>rw[hb 0 (by decide),h];rfl
 |2,_=>rw[hb 0 (by decide),hb 1 (by decide),h];rfl
 |3,_=>rw[hb 0 (by decide),hb 1 (by decide),hb 2 (by decide),h];rfl
 |4,_=>rw[hb 0 (by decide),hb 1 (by decide),hb 2 (by decide),hb 3 (by decide),h];rfl
 |5,_=>rw[hb 0 (by decide),hb 1 (by decide),hb 2 (by decide),hb 3 (by decide),hb 4 (by decide),h];rfl
 |6,_=>rw[hb 0 (by decide),hb 1 (by decide),hb 2 (by decide),hb 3 (by decide),hb 4 (by decide),hb 5 (by decide),h];rfl
theorem rU{E:Ap}(hb:∀j,j<7->B9 E j=false):S5 E=0:=by
 unfold S5
 rw[hb 0 (by decide),hb 1 (by decide),hb 2 (by decide),hb 3 (by decide),hb 4 (by decide),hb 5 (by decide),hb 6 (by decide)]
 rfl
theorem qL{ahead:List ByteArray}{E:Ap}(h1:Bk E.name=true)(h2:Cj ahead E.name=false)(h3:P6 E=false)(h4:Z4 E=false)(h5:Ij E.points=0):A0 ahead E=S5 E:=by
 unfold A0 S5
 rw[h1,h2,h3,h4,h5]
 simp only[B9,Io,Qo]
 cases T0 E
 ·cases He E
  ·cases Q8 E
   ·cases Sh E
    ·cases E.gaps.any Bu
     ·cases Ea E.edges
      ·cases Gl E.first
       ·cases Gl E.last<;>rfl
       ·rfl
      ·rfl
     ·rfl
    ·rfl
   ·rfl
  ·rfl
 ·rfl
section
variable (E:Ap) (vp vg ve vf vl:Value) (w:World)
theorem zL:Calls Tryz.prog 205 #[.agg (A7 E vp vg ve vf vl)] w fun e w'=>e=.returned (.bool (Q8 E))/\Below w.heap.size w w':=by
 unfold A7
 have ba:Below w.heap.size w (w.alloc (.cells (A7 E vp vg ve vf vl) 50)):=(Below.refl _ _).alloc (Nat.le_refl _) _
 unfold A7 at ba
 have BA:=Aia ba
 clear ba
 by_cases h1:E.count= -1
 ·have hb1:(E.count== -1)=true:=by simp[h1]
  by_cases h2:E.mn=0
  ·have hb2:(E.mn != 0)=false:=by simp[h2]
   by_cases h3:E.mx=0
   ·have hb3:(E.mx != 0)=false:=by simp[h3]
    have HV:=Aia (show Q8 E=false from decide_eq_false (by omega))
    clear h1 h2 h3
    go_enter func205,ntmps205
    go_wp2_with fail
    go_ret
    exact⟨Ah HV.out.symm,BA.out⟩
   ·have hb3:(E.mx != 0)=true:=by simp[h3]
    have HV:=Aia (show Q8 E=true from decide_eq_true ⟨h1,.inr h3⟩)
    clear h1 h2 h3
    go_enter func205,ntmps205
    go_wp2_with fail
    go_ret
    exact⟨Ah HV.out.symm,BA.out⟩
  ·have hb2:(E.mn != 0)=true:=by simp[h2]
   have HV:=Aia (show Q8 E=true from decide_eq_true ⟨h1,.inl h2⟩)
   clear h1 h2
   go_enter func205,ntmps205
   go_wp2_with fail
   go_ret
   exact⟨Ah HV.out.symm,BA.out⟩
 ·have hb1:(E.count== -1)=false:=by simp[h1]
  have HV:=Aia (show Q8 E=false from decide_eq_false (fun h=>h1 h.1))
  clear h1
  go_enter func205,ntmps205
  go_wp2_with fail
  go_ret
  exact⟨Ah HV.out.symm,BA.out⟩
theorem zK:Calls Tryz.prog 206 #[.agg (A7 E vp vg ve vf vl)] w fun e w'=>e=.returned (.bool (Sh E))/\Below w.heap.size w w':=by
 unfold A7
 have ba:Below w.heap.size w (w.alloc (.cells (A7 E vp vg ve vf vl) 50)):=(Below.refl _ _).alloc (Nat.le_refl _) _
 unfold A7 at ba
 have BA:=Aia ba
 clear ba
 by_cases h1:E.mn<0
 ·have HV:=Aia (show Sh E=true from decide_eq_true (.inl h1))
  go_enter func206,ntmps206
  go_wp2_with fail
  go_ret
  exact⟨Ah HV.out.symm,BA.out⟩
 ·by_cases h2:E.mx<E.mn
  ·have HV:=Aia (show Sh E=true from decide_eq_true (.inr (.inl h2)))
   go_enter func206,ntmps206
   go_wp2_with fail
   go_ret
   exact⟨Ah HV.out.symm,BA.out⟩
  ·have HV:=Aia (show Sh E=decide (1000<=E.mx)from by unfold Sh;rw[decide_eq_decide];omega)
   go_enter func206,ntmps206
   go_wp2_with fail
   go_ret
   exact⟨Ah HV.out.symm,BA.out⟩
end
section
variable (R:Nat->Prop) (E:Ap) (vp vg ve vf vl:Value) (w:World) (h:Ih R w E vp vg ve vf vl) (hR:∀b,R b->b<w.heap.size) (hE:Fx E)
include h hR hE
theorem zJ:Calls Tryz.prog 207 #[.agg (A7 E vp vg ve vf vl)] w fun e w'=>e=.returned (.bool (E.gaps.any Bu))/\Below w.heap.size w w':=by
 unfold A7
 have ba:Below w.heap.size w (w.alloc (.cells (A7 E vp vg ve vf vl) 50)):=(Below.refl _ _).alloc (Nat.le_refl _) _
 unfold A7 at ba
 have BA:=Aia ba
 clear ba
 obtain⟨ga,gc,rfl⟩:=h.g.val
 have HC:=Aia (fun W (hB:Below w.heap.size w W)=>wW R E.gaps _ W (h.g.below hB hR) (Du hR hB) (by have:=hE.g;omega))
 unfold qD at HC
 generalize E.gaps.any Bu=ans at HC ⊢
 clear h hR hE
 go_enter func207,ntmps207
 go_wp2_with fail
 refine(HC.out _ BA.out).mono ?_
 rintro e w2 ⟨rfl,b2⟩
 go_wp2_with fail
 go_ret
 exact⟨rfl,BA.out.trans (b2.mono BA.out.size)⟩
theorem zI:Calls Tryz.prog 210 #[.agg (A7 E vp vg ve vf vl)] w fun e w'=>e=.returned (.bool (Qo E))/\Below w.heap.size w w':=by
 obtain⟨ea,ec,rfl⟩:=h.e.val
 obtain⟨fa,fc,rfl⟩:=h.f.val
 obtain⟨la,lc,rfl⟩:=h.l.val
 have H:=Aia h
 have hEB:EB w R E vp vg (.slice ea E.edges.length ec) (.slice fa E.first.length fc) (.slice la E.last.length lc) w.heap.size (w.alloc (.cells (A7 E vp vg (.slice ea E.edges.length ec) (.slice fa E.first.length fc) (.slice la E.last.length lc)) 50)):=
  ⟨Ab _ _,h.keep (Ak ((Below.refl _ _).alloc (Nat.le_refl _) _)) (fun _ _ h=>h),(Below.refl _ _).alloc (Nat.le_refl _) _,hR,Nat.le_refl _⟩
 have HP:=Aia (fun W (hB:Below w.heap.size w W)=>rT R E.edges _ W (h.e.below hB hR) (Du hR hB) (by have:=hE.e;omega))
 have HF:=Aia (fun W (hB:Below w.heap.size w W)=>Ub R E.first _ W (h.f.below hB hR) (by have:=hE.f;omega))
 have HL:=Aia (fun W (hB:Below w.heap.size w W)=>Ub R E.last _ W (h.l.below hB hR) (by have:=hE.l;omega))
 have HT:Hid (Qo E=(Ea E.edges||(Gl E.first||Gl E.last))):=rfl
 generalize Ea E.edges=t1 at HP HT
 generalize Gl E.first=t2 at HF HT
 generalize Gl E.last=t3 at HL HT
 clear h hE
 unfold A7 at hEB ⊢
 go_enter func210,ntmps210
 go_upto_region 1 with fail
 generalize w.alloc _=w1 at hEB ⊢
 obtain⟨c0,c1,c2,c3,c4,c5,c6,c7,c8,c9⟩:=hEB.cells
 have HEB:=Aia hEB
 clear hEB c0 c1 c2 c3 c4 c5 c6
 go_wp2_with fail
 refine(HP.out _ HEB.out.bel).mono ?_
 rintro e w2 ⟨rfl,b2⟩
 have HEB2:=Aia (HEB.out.below b2)
 clear c7 c8 c9 b2 HEB
 obtain⟨c0,c1,c2,c3,c4,c5,c6,c7,c8,c9⟩:=HEB2.out.cells
 clear c0 c1 c2 c3 c4 c5 c6 c7
 have hbl:=HEB2.out.bel
 cases t1 with
 |true=>
  have HV:=Aia (show Qo E=true from HT.out)
  go_wp2_with fail
  go_ret
  exact⟨Ah HV.out.symm,hbl⟩
 |false=>
  go_wp2_with fail
  refine(HF.out _ hbl).mono ?_
  rintro e w' ⟨rfl,rfl⟩
  cases t2 with
  |true=>
   have HV:=Aia (show Qo E=true from HT.out)
   go_wp2_with fail
   go_ret
   exact⟨Ah HV.out.symm,hbl⟩
  |false=>
   go_wp2_with fail
   refine(HL.out _ hbl).mono ?_
   rintro e w' ⟨rfl,rfl⟩
   have HV:=Aia (show Qo E=t3 from HT.out)
   go_wp2_with fail
   go_ret
   exact⟨Ah HV.out.symm,hbl⟩
end
theorem zH(R:Nat->Prop)(E:Ap)(vp vg ve vf vl:Value)(w:World)(h:Ih R w E vp vg ve vf vl)(hR:∀b,R b->b<w.heap.size)(hE:Fx E):Calls Tryz.prog 213 #[.agg (A7 E vp vg ve vf vl)] w fun e w'=>e=.returned (.bool (s1W E))/\Below w.heap.size w w':=by
 unfold A7
 have ba:Below w.heap.size w (w.alloc (.cells (A7 E vp vg ve vf vl) 50)):=(Below.refl _ _).alloc (Nat.le_refl _) _
 unfold A7 at ba
 have BA:=Aia ba
 clear ba
 obtain⟨ea,ec,rfl⟩:=h.e.val
 obtain⟨fa,fc,rfl⟩:=h.f.val
 clear h hR hE
 by_cases h1:0<E.edges.length
 ·by_cases h2:E.first.length=0
  ·have hb:((E.first.length:Int)==0)=true:=by simp[h2]
   have HV:=Aia (show s1W E=true from decide_eq_true ⟨h1,h2⟩)
   clear h2
   go_enter func213,ntmps213
   go_wp2_with fail
   go_ret
   exact⟨Ah HV.out.symm,BA.out⟩
  ·have hb:((E.first.length:Int)==0)=false:=by simp;intro e;exact h2 (by rw[e];rfl)
   have HV:=Aia (show s1W E=false from decide_eq_false (fun h=>h2 h.2))
   clear h2
   go_enter func213,ntmps213
   go_wp2_with fail
   go_ret
   exact⟨Ah HV.out.symm,BA.out⟩
 ·have HV:=Aia (show s1W E=false from decide_eq_false (fun h=>h1 h.1))
  go_enter func213,ntmps213
  go_wp2_with fail
  go_ret
  exact⟨Ah HV.out.symm,BA.out⟩
theorem zG(R:Nat->Prop)(E:Ap)(vp vg ve vf vl:Value)(w:World)(h:Ih R w E vp vg ve vf vl)(hR:∀b,R b->b<w.heap.size)(hE:Fx E):Calls Tryz.prog 214 #[.agg (A7 E vp vg ve vf vl)] w fun e w'=>e=.returned (.bool (s2W E))/\Below w.heap.size w w':=by
 unfold A7
 have ba:Below w.heap.size w (w.alloc (.cells (A7 E vp vg ve vf vl) 50)):=(Below.refl _ _).alloc (Nat.le_refl _) _
 unfold A7 at ba
 have BA:=Aia ba
 clear ba
 have e4:=hE.f
 have e5:=hE.l
 obtain⟨ea,ec,rfl⟩:=h.e.val
 obtain⟨fa,fc,rfl⟩:=h.f.val
 obtain⟨la,lc,rfl⟩:=h.l.val
 clear h hR hE
 by_cases h1:E.edges.length=0
 ·have hb:((E.edges.length:Int)==0)=true:=by simp[h1]
  by_cases h2:0<(E.first.length:Int)+(E.last.length:Int)
  ·have HV:=Aia (show s2W E=true from decide_eq_true ⟨h1,by omega⟩)
   clear h1
   go_enter func214,ntmps214
   go_wp2_with fail
   go_ret
   exact⟨Ah HV.out.symm,BA.out⟩
  ·have HV:=Aia (show s2W E=false from decide_eq_false (fun h=>h2 (by have:=h.2;omega)))
   clear h1
   go_enter func214,ntmps214
   go_wp2_with fail
   go_ret
   exact⟨Ah HV.out.symm,BA.out⟩
 ·have hb:((E.edges.length:Int)==0)=false:=by simp;intro e;exact h1 (by rw[e];rfl)
  have HV:=Aia (show s2W E=false from decide_eq_false (fun h=>h1 h.1))
  clear h1
  go_enter func214,ntmps214
  go_wp2_with fail
  go_ret
  exact⟨Ah HV.out.symm,BA.out⟩
end
end Go.Proofs.YtikehilbmldadaaGreatDoor
