import Derived.Test.YtikehilbmldadaaGreatDoorQ25
import Derived.Test.YtikehilbmldadaaGreatDoorQ29
import Derived.Lib.SliceRun
import Derived.Test.YtikehilbmldadaaGreatDoorQ24
import Derived.Test.YtikehilbmldadaaGreatDoorShelf
import Derived.Lib.SlicesS
import Derived.Lib.Bytealg
import Derived.Deep.RegionLaw
set_option maxHeartbeats 8000000
set_option maxRecDepth 1000000
namespace Go.Proofs.YtikehilbmldadaaGreatDoor
open Go.RowKit
set_option linter.unusedVariables false
theorem KpOk.recs {M : KpM} {T : Nat} (h : KpOk M T) : ∀ r ∈ M.L, RecTd r := by
  obtain ⟨D, d1, d2, d3⟩ := h.log
  intro r hr
  rw [d3] at hr
  have hm : r ∈ D := List.mem_of_mem_drop hr
  obtain ⟨j, hj, rfl⟩ := List.mem_iff_getElem.1 hm
  exact (d1.seq j hj).2.td
theorem lastZ_mem {L : List RecV} (h : L ≠ []) : lastZ L ∈ L := by
  unfold lastZ
  rw [List.getLast?_eq_some_getLast h]
  exact List.getLast_mem h
section
variable {B : Nat} {sa : Nat → Addr} {w0 : World} {kb c pb : Nat} {txt : ByteArray} {x : KpX} {M : KpM} {o : Nat → Nat} {w : World} {T : Nat}
theorem KpIn.top (h : KpIn B sa w0 kb c txt x M o w) : B ≤ w.heap.size := Nat.le_trans h.b.bl h.b.bel.size
theorem cmd12_any (h : KpIn B sa w0 kb c txt x M o w) (hO : KpOk M T) (hT : TabB B w) (hp : w.heap[pb]? = some (plC kb c)) :
    Calls Tryz.prog 135 #[.pointer (some ⟨pb, 0, none⟩)] w (SayPost (scDo txt M 11 []).2.1 w) := by
  obtain ⟨p0, p1⟩ := pl_cells hp
  have HCa := Lib.hid (kpCause_any h hO)
  show Calls _ _ _ _ (SayPost (if M.L = [] then nothingS else strV (scRec (lastZ M.L))) w)
  have HR := Lib.hid (fun (hL : M.L ≠ []) => hO.recs _ (lastZ_mem hL))
  have hBt := h.top
  by_cases hL : M.L = []
  · rw [if_pos hL]
    rw [show (!M.L.isEmpty) = false by rw [hL]; rfl] at HCa
    obtain ⟨z, hz⟩ : ∃ z, z = lastZ M.L := ⟨_, rfl⟩
    rw [← hz] at HCa
    unfold recAgg at HCa
    unfold SayPost
    clear h hO hT hp hz hL HR
    go_enter Tryz.func135, Tryz.ntmps135
    go_wp2_with fail
    refine HCa.out.mono ?_
    rintro e w1 ⟨rfl, b1⟩
    have HB2 : Hid (Below w.heap.size w (w1.alloc (.cells #[.int .i64 z.seq, .int .i64 z.ent, .int .i64 z.kind, .int .i64 z.tick] 147))) := b1.alloc b1.size _
    clear b1
    go_upto_region 2 with fail
    generalize World.alloc _ _ = w3 at HB2 ⊢
    go_wp2_with fail
    go_ret
    exact ⟨rfl, HB2.out⟩
  · rw [if_neg hL]
    rw [show (!M.L.isEmpty) = true by cases hh : M.L with | nil => exact absurd hh hL | cons a b => rfl] at HCa
    have hrt := HR.out hL
    obtain ⟨z, hz⟩ : ∃ z, z = lastZ M.L := ⟨_, rfl⟩
    rw [← hz] at HCa hrt ⊢
    have HTd := Lib.hid (fun W (hW : Below w.heap.size w W) => scTold_any B z W (hT.low hW hBt) (Nat.le_trans hBt hW.size) hrt)
    unfold recAgg at HCa HTd
    unfold SayPost
    obtain ⟨s, hs⟩ : ∃ s, s = strV (scRec z) := ⟨_, rfl⟩
    rw [← hs] at HTd ⊢
    clear h hO hT hp hz hL HR hrt hs
    go_enter Tryz.func135, Tryz.ntmps135
    go_wp2_with fail
    refine HCa.out.mono ?_
    rintro e w1 ⟨rfl, b1⟩
    have HB2 : Hid (Below w.heap.size w (w1.alloc (.cells #[.int .i64 z.seq, .int .i64 z.ent, .int .i64 z.kind, .int .i64 z.tick] 147))) := b1.alloc b1.size _
    have HX : Hid ((w1.alloc (.cells #[.int .i64 z.seq, .int .i64 z.ent, .int .i64 z.kind, .int .i64 z.tick] 147)).heap[w1.heap.size]? = some (recC z)) := get_alloc_new w1 (.cells #[.int .i64 z.seq, .int .i64 z.ent, .int .i64 z.kind, .int .i64 z.tick] 147)
    clear b1
    go_upto_region 2 with fail
    generalize World.alloc _ _ = w3 at HB2 HX ⊢
    obtain ⟨x0, x1, x2, x3⟩ := four_cells (show w3.heap[w1.heap.size]? = some (.cells #[.int .i64 z.seq, .int .i64 z.ent, .int .i64 z.kind, .int .i64 z.tick] 147) from HX.out)
    have HTd3 := Lib.hid (HTd.out w3 HB2.out)
    go_wp2_with fail
    refine HTd3.out.mono ?_
    rintro e w4 ⟨rfl, b4⟩
    have HB4 := Lib.hid (HB2.out.trans (b4.mono HB2.out.size))
    clear b4
    go_wp2_with fail
    go_ret
    exact ⟨rfl, HB4.out⟩
structure LogSt (w : World) (p : Nat) (L : List RecV) (i : Nat) (v : Value) (b off : Nat) (wr : World) : Prop where
  own : wr.ownsRow p 9 1 v i (strCells1 ((L.map fun r => strV (scRec r)).take i))
  rc : ∀ k (hk : k < L.length), wr.cell? ⟨b, off + k * 4, none⟩ = some (.int .i64 L[k].seq) ∧ wr.cell? ⟨b, off + k * 4 + 1, none⟩ = some (.int .i64 L[k].ent) ∧ wr.cell? ⟨b, off + k * 4 + 2, none⟩ = some (.int .i64 L[k].kind) ∧ wr.cell? ⟨b, off + k * 4 + 3, none⟩ = some (.int .i64 L[k].tick)
  bel : Below w.heap.size w wr
  lo : w.heap.size ≤ p
  hi : p ≤ wr.heap.size
  bp : b < p
theorem LogSt.below {w wr w' : World} {p i b off : Nat} {L : List RecV} {v : Value} (h : LogSt w p L i v b off wr) (k : Below wr.heap.size wr w') : LogSt w p L i v b off w' := by
  have hb : b < wr.heap.size := Nat.lt_of_lt_of_le h.bp h.hi
  refine ⟨ownsRow_keep' h.own (below_keep k) (fun _ _ _ h => h), fun j hj => ?_, h.bel.trans (k.mono h.bel.size), h.lo, Nat.le_trans h.hi k.size, h.bp⟩
  obtain ⟨a1, a2, a3, a4⟩ := h.rc j hj
  exact ⟨by rw [k.cell (p := ⟨b, _, none⟩) hb]; exact a1, by rw [k.cell (p := ⟨b, _, none⟩) hb]; exact a2, by rw [k.cell (p := ⟨b, _, none⟩) hb]; exact a3, by rw [k.cell (p := ⟨b, _, none⟩) hb]; exact a4⟩
theorem LogSt.next {w wz W w' : World} {p i b off : Nat} {L : List RecV} {v v' : Value} (h : LogSt w p L i v b off wz) (hi : i < L.length) (hb : Below wz.heap.size wz W) (ho : w'.ownsRow p 9 1 v' (i + 1) (strCells1 ((L.map fun r => strV (scRec r)).take i) ++ strCells1 [strV (scRec L[i])])) (hg : W.grownBy w' v.ownBlock) : LogSt w p L (i + 1) v' b off w' := by
  have h2 := h.below hb
  have kg : Keep (fun b => some b = v.ownBlock) W w' := Keep.of_grown hg
  have hl := fun b (hb : some b = v.ownBlock) => (h2.own.lt b hb.symm).1
  have hbw : b < W.heap.size := Nat.lt_of_lt_of_le h2.bp h2.hi
  have hnb : ¬ some b = v.ownBlock := fun hh => by have := hl b hh; have := h2.bp; omega
  refine ⟨?_, fun k hk => ?_, h2.bel.trans (kg.below h2.bel.size (fun b hb => by have := hl b hb; have := h2.lo; omega)), h2.lo, Nat.le_trans h2.hi kg.size, h2.bp⟩
  · rw [List.take_succ_eq_append_getElem (by rw [List.length_map]; exact hi), strCells_one, List.getElem_map]; exact ho
  · obtain ⟨a1, a2, a3, a4⟩ := h2.rc k hk
    exact ⟨by rw [kg.cell (p := ⟨b, _, none⟩) hbw hnb]; exact a1, by rw [kg.cell (p := ⟨b, _, none⟩) hbw hnb]; exact a2, by rw [kg.cell (p := ⟨b, _, none⟩) hbw hnb]; exact a3, by rw [kg.cell (p := ⟨b, _, none⟩) hbw hnb]; exact a4⟩
theorem scLog_len {L : List RecV} (h : ∀ r ∈ L, RecTd r) (h8 : L.length ≤ 8) : (Lib.join (L.map scRec) [44, 32]).length ≤ 1000 := by
  cases L with
  | nil => decide
  | cons a l =>
    rw [List.map_cons, Lib.join_length]
    have : ∀ l : List RecV, (∀ r ∈ l, RecTd r) → Lib.lens (l.map scRec) ≤ l.length * 87 := by
      intro l
      induction l with
      | nil => intro _; simp [Lib.lens]
      | cons b l ih =>
        intro hh
        have h1 := scRec_len (hh b List.mem_cons_self)
        have h2 := ih (fun r hr => hh r (List.mem_cons_of_mem _ hr))
        simp only [Lib.lens, List.map_cons, List.sum_cons, List.length_cons] at h2 ⊢
        omega
    have h2 := this (a :: l) h
    rw [List.map_cons] at h2
    simp only [List.length_cons, List.length_map, List.length_nil] at h2 h8 ⊢
    omega
theorem logTs_data (L : List RecV) : ((L.map fun r => strV (scRec r)).map (·.data.toList)) = L.map scRec := by
  rw [List.map_map]
  refine List.map_congr_left (fun r _ => ?_)
  exact strV_data _
theorem cmd13_any (h : KpIn B sa w0 kb c txt x M o w) (hO : KpOk M T) (hT : TabB B w) (hp : w.heap[pb]? = some (plC kb c)) :
    Calls Tryz.prog 138 #[.pointer (some ⟨pb, 0, none⟩)] w (SayPost (scDo txt M 12 []).2.1 w) := by
  obtain ⟨i0, hi0, hz0, hz1, hz2⟩ := info_parts Tryz.infoStr
  have qn : ∀ (w : World) (a : Option Addr) (n c n' c' : Nat), (binOp .eql 22 (.slice a n c) (.slice none n' c')).run Tryz.prog w = .ok (.bool a.isNone) w := fun w a n c n' c' => Lib.run_eql_slice_nil w _ _ a n c n' c' Tryz.underlying22
  obtain ⟨p0, p1⟩ := pl_cells hp
  have HLg := Lib.hid (kpLog_any h hO)
  show Calls _ _ _ _ (SayPost (scLog M.L) w)
  have HR := Lib.hid hO.recs
  have HBt := Lib.hid h.top
  have HT := Lib.hid hT
  have h8 := hO.l8.1
  obtain ⟨L, hL⟩ : ∃ L, L = M.L := ⟨_, rfl⟩
  rw [← hL] at HLg HR h8 ⊢
  unfold SayPost
  clear h hO hT hp hL
  by_cases hn : L = []
  · subst hn
    have hsl : scLog [] = nothingS := rfl
    rw [hsl]
    go_enter Tryz.func138, Tryz.ntmps138
    go_wp2_with fail
    refine HLg.out.mono ?_
    rintro e w1 ⟨v, rfl, sv, b1⟩
    obtain ⟨ao, cap, rfl⟩ := sv.val
    have HB1 := Lib.hid b1
    clear sv b1
    go_wp2_with fail
    go_loopw [3, 12] (fun s3 s12 wr => s3 = .slice none 0 0 ∧ s12 = .int .i64 0 ∧ wr = w1) (fun _ _ _ => 0)
    case atStart => exact ⟨rfl, rfl, rfl⟩
    case round =>
      obtain ⟨rfl, rfl, rfl⟩ := hrel
      go_wp2_with fail
      go_ret
      exact ⟨rfl, HB1.out⟩
  · have h0 : 0 < L.length := List.length_pos_iff.2 hn
    have hsl : scLog L = strV (Lib.join (L.map scRec) [44, 32]) := if_neg hn
    have HSL := Lib.hid hsl
    clear hn hsl
    go_enter Tryz.func138, Tryz.ntmps138
    go_wp2_with fail
    refine HLg.out.mono ?_
    rintro e w1 ⟨v, rfl, sv, b1⟩
    obtain ⟨ao, cap, rfl⟩ := sv.val
    obtain ⟨b, off, rfl, hRb, hb, hc⟩ := rec_cells sv h0
    have HST0 : Hid (LogSt w w1.heap.size L 0 (.slice none 0 0) b off w1) := (show LogSt w w1.heap.size L 0 (.slice none 0 0) b off w1 from ⟨World.ownsRow_nil _ _ _ _, hc, b1, b1.size, Nat.le_refl _, hb⟩)
    clear sv hc hRb hb b1 HLg
    generalize hp : w1.heap.size = p at HST0 ⊢
    clear hp
    obtain ⟨n, hnn⟩ : ∃ n, n = L.length := ⟨_, rfl⟩
    have HN := Lib.hid hnn
    rw [← hnn] at h0 h8 ⊢
    clear hnn
    go_wp2_with fail
    go_loopw [3, 12] (fun s3 s12 wr => ∃ (i : Nat) (a1 : Option Addr) (j1 : Nat), i ≤ n ∧ s3 = .slice a1 i j1 ∧ s12 = .int .i64 i ∧ Hid (LogSt w p L i (.slice a1 i j1) b off wr)) (fun _ s12 _ => n - (intOf s12).toNat)
    case atStart => exact ⟨0, none, 0, Nat.zero_le _, rfl, rfl, HST0⟩
    case round =>
      obtain ⟨i, a1, j1, hi, rfl, rfl, hst⟩ := hrel
      clear HST0
      by_cases hlt : i < n
      · have hltI : (i : Int) < n := by omega
        have hil : i < L.length := by have := HN.out; omega
        obtain ⟨q0, q1, q2, q3⟩ := hst.out.rc i hil
        have hrt := HR.out L[i] (List.getElem_mem hil)
        have HNx := Lib.hid (fun wz W w' v' (bz : Below wr.heap.size wr wz) hb ho hg => (hst.out.below bz).next (W := W) (w' := w') (v' := v') hil hb ho hg)
        have HLay := Lib.hid (fun wz (bz : Below wr.heap.size wr wz) (x : Obj) => And.intro ((hst.out.below bz).own.alloc x) (show p ≤ (wz.alloc x).heap.size by rw [World.size_alloc]; have := (hst.out.below bz).hi; omega))
        have HBW := Lib.hid (And.intro hst.out.bel (And.intro hst.out.bp hst.out.hi))
        obtain ⟨r, hr⟩ : ∃ r, r = L[i] := ⟨_, rfl⟩
        rw [← hr] at q0 q1 q2 q3 hrt HNx
        have HTd := Lib.hid (fun W (hW : Below wr.heap.size wr W) => scTold_any B r W (HT.out.low (HBW.out.1.trans (hW.mono HBW.out.1.size)) HBt.out) (by have := HBt.out; have := HBW.out.1.size; have := hW.size; omega) hrt)
        obtain ⟨S, hS⟩ : ∃ S : ByteArray, S = strV (scRec r) := ⟨_, rfl⟩
        obtain ⟨cs, hcs⟩ : ∃ cs, cs = strCells1 ((L.map fun r => strV (scRec r)).take i) := ⟨_, rfl⟩
        rw [← hS, ← hcs] at HNx
        rw [← hS] at HTd
        have HLay2 : Hid (∀ wz (bz : Below wr.heap.size wr wz) (x : Obj), (wz.alloc x).ownsRow p 9 1 (.slice a1 i j1) i cs ∧ p ≤ (wz.alloc x).heap.size) := (show ∀ wz (bz : Below wr.heap.size wr wz) (x : Obj), (wz.alloc x).ownsRow p 9 1 (.slice a1 i j1) i cs ∧ p ≤ (wz.alloc x).heap.size from by rw [hcs]; exact HLay.out)
        have h63 : Hid (i + 1 ≤ maxLen) := (show i + 1 ≤ maxLen from by unfold maxLen; omega)
        have hby : Hid ((i + 1) * 16 ≤ 140737488355328) := (show (i + 1) * 16 ≤ 140737488355328 from by omega)
        unfold recAgg at HTd
        have hbr : b < wr.heap.size := by have := HBW.out; omega
        have HBA : Hid (Below wr.heap.size wr (wr.alloc (.cells #[.int .i64 r.seq, .int .i64 r.ent, .int .i64 r.kind, .int .i64 r.tick] 147))) := (Below.refl wr.heap.size wr).alloc (Nat.le_refl _) _
        have HX : Hid ((wr.alloc (.cells #[.int .i64 r.seq, .int .i64 r.ent, .int .i64 r.kind, .int .i64 r.tick] 147)).heap[wr.heap.size]? = some (recC r)) := get_alloc_new wr (.cells #[.int .i64 r.seq, .int .i64 r.ent, .int .i64 r.kind, .int .i64 r.tick] 147)
        clear hst HLay hr hS hcs hrt HBW hil
        go_upto_region 5 with fail
        generalize World.alloc _ _ = w3 at HBA HX ⊢
        clear q0 q1 q2 q3
        obtain ⟨x0, x1, x2, x3⟩ := four_cells (show w3.heap[wr.heap.size]? = some (.cells #[.int .i64 r.seq, .int .i64 r.ent, .int .i64 r.kind, .int .i64 r.tick] 147) from HX.out)
        have HTd3 := Lib.hid (HTd.out w3 HBA.out)
        go_wp2_with fail
        refine HTd3.out.mono ?_
        rintro e wz ⟨rfl, bz⟩
        have HBZ := Lib.hid (HBA.out.trans (bz.mono HBA.out.size))
        clear bz x0 x1 x2 x3
        go_wp2_with (at_builtin; go_must (refine wpList_append_ownS rfl (.tmp 16) (.tmp 19) 22 rfl p 9 i0 _ 1 16 Tryz.underlying22 hi0 hz0 hz1 hz2 rfl (by decide) _ i _ rfl (HLay2.out wz HBZ.out _).1 ⟨wz.heap.size, 0, none⟩ 1 1 (strCells1 [S]) rfl rfl (new_cells _ (strCells1 [S]) _) (oneCell_strs _) h63.out hby.out (HLay2.out wz HBZ.out _).2 ?_; intro a2 k2 w4 ho hg; have nx := Lib.hid (HNx.out wz _ w4 _ HBZ.out ((Below.refl _ _).alloc (Nat.le_refl _) _) ho hg); clear ho hg))
        go_roundw
        case rel => exact ⟨i + 1, a2, k2, by omega, rfl, by go_num, nx⟩
        case measure => simp [intOf]; omega
      · obtain rfl : i = n := by omega
        have hin := HN.out
        have hsl := slOf_owns hst.out.own
        rw [List.take_of_length_le (by rw [List.length_map]; omega)] at hsl
        have hll : (L.map fun r => strV (scRec r)).length = i := by rw [List.length_map]; exact hin.symm
        obtain ⟨hl4, ao, cap, hv, hc1, hc2, hc3, hc4⟩ := id hsl
        injection hv with e1 e2 e3
        subst e1; subst e3
        obtain ⟨jb, joff, rfl, hR, hbl, hcell⟩ := str_cells (ao := a1) (n := i) (cap := j1) (l := L.map fun r => strV (scRec r)) (by rw [hll]; exact hsl) (by omega)
        have HJ := Tryz.strings_Join jb joff j1 (L.map fun r => strV (scRec r)) ⟨#[44, 32]⟩ wr (fun j x hx => by
          obtain ⟨hj, rfl⟩ := List.getElem?_eq_some_iff.1 hx
          exact hcell j hj) hbl (by omega) (by omega) (by
          rw [logTs_data]
          have := scLog_len HR.out (by omega)
          show (Lib.join (L.map scRec) [44, 32]).length ≤ _
          omega)
        rw [logTs_data, hll] at HJ
        have HJ2 : Hid (Calls Tryz.prog 139 #[.slice (some ⟨jb, joff, none⟩) i j1, .string ⟨#[44, 32]⟩] wr fun e w' => e = .returned (.string (scLog L)) ∧ Below wr.heap.size wr w') := (show Calls Tryz.prog 139 #[.slice (some ⟨jb, joff, none⟩) i j1, .string ⟨#[44, 32]⟩] wr fun e w' => e = .returned (.string (scLog L)) ∧ Below wr.heap.size wr w' from by
          rw [HSL.out]; exact HJ)
        have HB := Lib.hid hst.out.bel
        clear HJ hst hsl hl4 hc1 hc2 hc3 hc4 hcell hbl hR HSL HT HR hll hin HN
        go_wp2_with fail
        refine HJ2.out.mono ?_
        rintro e wz ⟨rfl, bz⟩
        have HB2 := Lib.hid (HB.out.trans (bz.mono HB.out.size))
        clear bz
        go_wp2_with fail
        go_ret
        exact ⟨rfl, HB2.out⟩
end
end Go.Proofs.YtikehilbmldadaaGreatDoor
namespace Go.Proofs.YtikehilbmldadaaGreatDoor
open Go.RowKit
set_option linter.unusedVariables false
theorem repN_cons (c : UInt8) (l : List UInt8) : repN (c :: l) = (if c = 10 then [59, 32] else [c]) ++ repN l := by simp [repN]
theorem repN_none : ∀ d : List UInt8, d.count 10 = 0 → repN d = d
  | [], _ => rfl
  | c :: l, h => by
    have hc : c ≠ 10 := fun e => by subst e; simp at h
    rw [List.count_cons_of_ne (by simpa using hc)] at h
    rw [repN_cons, if_neg hc, repN_none l h]; rfl
theorem repN_hit : ∀ d : List UInt8, 0 < d.count 10 → ∃ j : Nat, Lib.indexByte d 10 = (j : Int) ∧ j < d.length ∧ repN d = d.take j ++ [59, 32] ++ repN (d.drop (j + 1)) ∧ d.count 10 = (d.drop (j + 1)).count 10 + 1
  | [], h => by simp at h
  | c :: l, h => by
    by_cases hc : c = 10
    · subst hc
      exact ⟨0, by simp [Lib.indexByte], by simp, by rw [repN_cons]; simp, by simp⟩
    · rw [List.count_cons_of_ne (by simpa using hc)] at h
      obtain ⟨j, h1, h2, h3, h4⟩ := repN_hit l h
      refine ⟨j + 1, ?_, by simp; omega, ?_, ?_⟩
      · unfold Lib.indexByte
        have hb : (c == (10 : UInt8)) = false := by simpa using hc
        rw [hb, h1]
        have hj : ((j : Int) == -1) = false := beq_eq_false_iff_ne.2 (by omega)
        simp [hj]
      · rw [repN_cons, if_neg hc, h3]; simp
      · rw [List.count_cons_of_ne (by simpa using hc), h4]; simp
structure RepSt (w : World) (s : ByteArray) (start g : Nat) (acc : List UInt8) (wx : World) : Prop where
  bl : Lib.IsBuilder 121 5 w.heap.size w.heap.size (Lib.byteCells acc) wx
  bel : Below w.heap.size w wx
  out : acc ++ repN (s.data.toList.drop start) = repN s.data.toList
  cnt : (s.data.toList.drop start).count 10 = g
  st : start ≤ s.size
  len : acc.length ≤ 2 * start
theorem RepSt.one {w wx : World} {s : ByteArray} {start g : Nat} {acc : List UInt8} (h : RepSt w s start (g + 1) acc wx) : ∃ j : Nat, Lib.indexByte (s.data.toList.drop start) 10 = (j : Int) ∧ start + j < s.size ∧
    (∀ w', Lib.BuilderAt 121 5 w.heap.size w.heap.size (.pointer (some ⟨w.heap.size, 0, none⟩)) (Lib.byteCells acc ++ Lib.strCells (s.extract start (start + j)) ++ Lib.strCells ⟨#[59, 32]⟩) w' → Below w.heap.size w w' → ∃ acc', RepSt w s (start + j + 1) g acc' w') := by
  obtain ⟨j, h1, h2, h3, h4⟩ := repN_hit (s.data.toList.drop start) (by rw [h.cnt]; omega)
  have hsz : s.data.toList.length = s.size := by rw [Array.length_toList]; rfl
  rw [List.length_drop, hsz] at h2
  have hst := h.st
  refine ⟨j, h1, by omega, fun w' hb hw => ⟨acc ++ (s.data.toList.drop start).take j ++ [59, 32], .inr ?_, hw, ?_, ?_, by omega, ?_⟩⟩
  · have e : Lib.byteCells (acc ++ (s.data.toList.drop start).take j ++ [59, 32]) = Lib.byteCells acc ++ Lib.strCells (s.extract start (start + j)) ++ Lib.strCells ⟨#[59, 32]⟩ := by
      rw [Lib.strCells_eq, Lib.strCells_eq, Lib.extract_data, Nat.add_sub_cancel_left, ← Lib.byteCells_append, ← Lib.byteCells_append]
    rw [e]; exact hb
  · rw [← h.out, h3, List.drop_drop]
    simp only [List.append_assoc, Nat.add_assoc]
  · have := h.cnt
    rw [h4, List.drop_drop] at this
    rw [show start + j + 1 = start + (j + 1) by omega]
    omega
  · have := h.len
    simp only [List.length_append, List.length_take, List.length_drop, List.length_cons, List.length_nil]
    omega
theorem e592 : (⟨#[59, 32]⟩ : ByteArray).size = 2 := rfl
theorem bWrite_any (B b : Nat) (bs : List Value) (s : ByteArray) (w : World) (h : Lib.IsBuilder 121 5 B b bs w) (hlen : bs.length + s.size ≤ 140737488355328) (hBw : B ≤ w.heap.size) :
    Calls Tryz.prog 99 #[.pointer (some ⟨b, 0, none⟩), .string s] w fun e w' => e = .returned (.tuple #[.int .i64 s.size, .nilIface]) ∧ (Lib.BuilderAt 121 5 B b (.pointer (some ⟨b, 0, none⟩)) (bs ++ Lib.strCells s) w' ∧ Below B w w') :=
  Any.Builder_WriteString { Tryz.lays154 with } Tryz.Builder_Extra_154 B b bs s w h hlen hBw
theorem wrap_in (n : Nat) (h : n ≤ 1000000) : wrap64 (n : Int) = (n : Int) := by unfold wrap64; omega
section
variable {w wx : World} {s : ByteArray} {start g : Nat} {acc : List UInt8}
theorem RepSt.small (h : RepSt w s start g acc wx) (hs : s.size ≤ 100000) (b : Nat) : (Lib.byteCells acc).length + (s.extract start b).size ≤ 300000 := by
  have h1 := h.len
  have h2 := h.st
  have h3 : (s.extract start b).size ≤ 100000 := by rw [ByteArray.size_extract]; omega
  rw [Lib.byteCells_length]
  omega
theorem RepSt.wr1 (h : RepSt w s start g acc wx) (hs : s.size ≤ 100000) (b : Nat) :
    Calls Tryz.prog 99 #[.pointer (some ⟨w.heap.size, 0, none⟩), .string (s.extract start b)] wx fun e w' => e = .returned (.tuple #[.int .i64 (s.extract start b).size, .nilIface]) ∧ (Lib.BuilderAt 121 5 w.heap.size w.heap.size (.pointer (some ⟨w.heap.size, 0, none⟩)) (Lib.byteCells acc ++ Lib.strCells (s.extract start b)) w' ∧ Below w.heap.size wx w') :=
  bWrite_any _ _ _ _ _ h.bl (Nat.le_trans (h.small hs b) (by decide)) h.bel.size
theorem RepSt.wr2 (h : RepSt w s start g acc wx) (hs : s.size ≤ 100000) (b : Nat) (w3 : World) (hb : Lib.BuilderAt 121 5 w.heap.size w.heap.size (.pointer (some ⟨w.heap.size, 0, none⟩)) (Lib.byteCells acc ++ Lib.strCells (s.extract start b)) w3) (hl : w.heap.size ≤ w3.heap.size) :
    Calls Tryz.prog 99 #[.pointer (some ⟨w.heap.size, 0, none⟩), .string ⟨#[59, 32]⟩] w3 fun e w' => e = .returned (.tuple #[.int .i64 2, .nilIface]) ∧ (Lib.BuilderAt 121 5 w.heap.size w.heap.size (.pointer (some ⟨w.heap.size, 0, none⟩)) (Lib.byteCells acc ++ Lib.strCells (s.extract start b) ++ Lib.strCells ⟨#[59, 32]⟩) w' ∧ Below w.heap.size w3 w') := by
  have h2 := h.small hs b
  have h3 : (Lib.byteCells acc ++ Lib.strCells (s.extract start b)).length + (⟨#[59, 32]⟩ : ByteArray).size ≤ 300002 := by
    rw [List.length_append, Lib.strCells_length, e592]
    omega
  have := bWrite_any w.heap.size w.heap.size _ ⟨#[59, 32]⟩ w3 (.inr hb) (Nat.le_trans h3 (by decide)) hl
  rw [e592] at this
  exact this
end
theorem scReplace_any (s : ByteArray) (w : World) (hs : s.size ≤ 100000) :
    Calls Tryz.prog 192 #[.string s, .string ⟨#[10]⟩, .string ⟨#[59, 32]⟩, .int .i64 (-1)] w fun e w' => e = .returned (.string (strV (repN s.data.toList))) ∧ Below w.heap.size w w' := by
  have HC := Lib.hid (Tryz.strings_Count_one s 10 w)
  obtain ⟨K, hK⟩ : ∃ K : Nat, K = Lib.countByte s.data.toList 10 := ⟨_, rfl⟩
  rw [← hK] at HC
  have hsz : s.data.toList.length = s.size := by rw [Array.length_toList]; rfl
  have hKs : K ≤ s.size := by
    rw [hK, ← hsz]
    exact List.count_le_length
  have hS0 := Lib.hid (show s.data.toList.count 10 = K from hK.symm)
  by_cases h0 : K = 0
  · subst h0
    have HR := Lib.hid (show strV (repN s.data.toList) = s from by rw [repN_none _ hS0.out]; exact strV_of s)
    clear hK hKs hS0 hsz
    go_enter Tryz.func192, Tryz.ntmps192
    go_wp2_with fail
    refine HC.out.mono ?_
    rintro e w1 ⟨rfl, rfl⟩
    go_wp2_with fail
    go_ret
    refine ⟨?_, Below.refl _ _⟩
    rw [HR.out]; rfl
  · have hcz : ((K : Int) == 0) = false := beq_eq_false_iff_ne.2 (by omega)
    have hS := Lib.hid hs
    have hKS := Lib.hid hKs
    have HSZ := Lib.hid hsz
    have HG := Lib.hid (fun W hb hB => Tryz.Builder_Grow_fresh w.heap.size w.heap.size (s.size + K) W (Nat.le_refl _) hb hB (by omega))
    have hga : wrap64 ((s.size : Int) + wrap64 (K : Int)) = ((s.size + K : Nat) : Int) := by
      unfold wrap64
      omega
    clear hK h0 hs hKs hsz
    go_enter Tryz.func192, Tryz.ntmps192
    go_wp2_with fail
    refine HC.out.mono ?_
    rintro e w1 ⟨rfl, rfl⟩
    clear HC
    go_wp2_with fail
    rw [hga]
    refine (HG.out _ (heap_alloc_new _ _) (by simp)).mono ?_
    rintro e w2 ⟨rfl, hb0, hb1⟩
    have hst : RepSt w1 s 0 K [] w2 := ⟨.inr hb0, ((Below.refl w1.heap.size w1).alloc (Nat.le_refl _) _).trans hb1, by simp, by rw [List.drop_zero]; exact hS0.out, Nat.zero_le _, by simp⟩
    have HST := Lib.hid hst
    clear hb0 hb1 hst hga HG
    go_wp2_with fail
    go_loopw [11, 53] (fun s11 s53 wx => ∃ (i start g : Nat) (acc : List UInt8), s53 = .int .i64 i ∧ s11 = .int .i64 start ∧ i + g = K ∧ Hid (RepSt w1 s start g acc wx)) (fun _ s53 _ => K - (intOf s53).toNat)
    case atStart => exact ⟨0, 0, K, [], rfl, rfl, by omega, HST⟩
    case round =>
      obtain ⟨i, start, g, acc, rfl, rfl, hig, hr⟩ := hrel
      clear HST
      have hBw : w1.heap.size ≤ wr.heap.size := hr.out.bel.size
      have hle := hr.out.st
      have c1 : (0 : Int) ≤ (start : Int) := by omega
      have c2 : (start : Int) ≤ (s.size : Int) := by omega
      have hacc := hr.out.len
      have hsb := hS.out
      cases g with
      | zero =>
        have hiK : ¬ ((i : Int) < (K : Int)) := by omega
        have HW := Lib.hid (hr.out.wr1 hsb s.size)
        have HF : Hid (Lib.byteCells acc ++ Lib.strCells (s.extract start s.size) = Lib.byteCells (repN s.data.toList)) := (show Lib.byteCells acc ++ Lib.strCells (s.extract start s.size) = Lib.byteCells (repN s.data.toList) from by
          rw [Lib.strCells_eq, Lib.extract_to_end, ← Lib.byteCells_append, ← hr.out.out, repN_none _ hr.out.cnt])
        have HBl := Lib.hid hr.out.bel
        clear hr hacc hle hsb
        go_wp2_with fail
        refine HW.out.mono ?_
        rintro e w3 ⟨rfl, h3, hb3⟩
        rw [HF.out] at h3
        have HSt := Lib.hid (Tryz.Builder_String_any w1.heap.size w1.heap.size _ w3 (.inr h3) (Nat.le_trans hBw hb3.size))
        have HB3 := Lib.hid (HBl.out.trans hb3)
        clear h3 hb3 HW HF
        go_wp2_with fail
        refine HSt.out.mono ?_
        rintro e w4 ⟨rfl, hb4⟩
        have HB4 := Lib.hid (HB3.out.trans hb4)
        clear hb4
        go_wp2_with fail
        go_ret
        exact ⟨rfl, HB4.out⟩
      | succ g =>
        have hiK : (i : Int) < (K : Int) := by omega
        obtain ⟨j, hj, hjs, hnx⟩ := hr.out.one
        have HIx := Lib.hid (Tryz.strings_Index_one (s.extract start s.size) 10 wr)
        rw [Lib.extract_to_end, hj] at HIx
        have c3 : (start : Int) ≤ (start : Int) + (j : Int) := by omega
        have c4 : (start : Int) + (j : Int) ≤ (s.size : Int) := by omega
        have hb1 : start + j ≤ 1000000 := by omega
        have hb2 : start + j + 1 ≤ 1000000 := by omega
        have hb3 : i + 1 ≤ 1000000 := by have := hKS.out; omega
        have hc1 : (start : Int) + (j : Int) = ((start + j : Nat) : Int) := by omega
        have hc2 : (start : Int) + (j : Int) + 1 = ((start + j + 1 : Nat) : Int) := by omega
        have hc3 : (i : Int) + 1 = ((i + 1 : Nat) : Int) := by omega
        have hw1 : wrap64 ((start : Int) + (j : Int)) = ((start + j : Nat) : Int) := by rw [hc1]; exact wrap_in _ hb1
        have hw2 : wrap64 ((start : Int) + (j : Int) + 1) = ((start + j + 1 : Nat) : Int) := by rw [hc2]; exact wrap_in _ hb2
        have hw3 : wrap64 ((i : Int) + 1) = ((i + 1 : Nat) : Int) := by rw [hc3]; exact wrap_in _ hb3
        clear hb1 hb2 hb3 hc1 hc2 hc3
        have HW := Lib.hid (hr.out.wr1 hsb (start + j))
        have HW2 := Lib.hid (fun w3 h3 hl => hr.out.wr2 hsb (start + j) w3 h3 hl)
        have HNx := Lib.hid hnx
        have HBl := Lib.hid hr.out.bel
        clear hr hacc hle hsb hj hnx
        go_wp2_with fail
        refine HIx.out.mono ?_
        rintro e wi ⟨rfl, rfl⟩
        go_wp2_with fail
        rw [hw1]
        refine HW.out.mono ?_
        rintro e w3 ⟨rfl, h3, hb3⟩
        have HW3 := Lib.hid (HW2.out w3 h3 (Nat.le_trans hBw hb3.size))
        have HB3 := Lib.hid (HBl.out.trans hb3)
        clear h3 hb3 HW HW2
        go_wp2_with fail
        refine HW3.out.mono ?_
        rintro e w4 ⟨rfl, h4, hb4⟩
        obtain ⟨acc', hx⟩ := HNx.out w4 h4 (HB3.out.trans hb4)
        have HX := Lib.hid hx
        clear h4 hb4 hx HW3 HNx HB3 HBl
        go_wp2_with fail
        go_roundw
        case rel => exact ⟨i + 1, start + j + 1, g, acc', by rw [hw3], by rw [hw2], by omega, HX⟩
        case measure => rw [hw3]; simp [intOf]; omega
theorem scReplaceAll_any (s : ByteArray) (w : World) (hs : s.size ≤ 100000) :
    Calls Tryz.prog 141 #[.string s, .string ⟨#[10]⟩, .string ⟨#[59, 32]⟩] w fun e w' => e = .returned (.string (strV (repN s.data.toList))) ∧ Below w.heap.size w w' := by
  have HC := Lib.hid (scReplace_any s w hs)
  clear hs
  go_enter Tryz.func141, Tryz.ntmps141
  go_wp2_with fail
  refine HC.out.mono ?_
  rintro e w1 ⟨rfl, b1⟩
  go_wp2_with fail
  go_ret
  exact ⟨rfl, b1⟩
end Go.Proofs.YtikehilbmldadaaGreatDoor
namespace Go.Proofs.YtikehilbmldadaaGreatDoor
open Go.RowKit
set_option linter.unusedVariables false
section
variable {B : Nat} {sa : Nat → Addr} {w0 : World} {kb c pb : Nat} {txt : ByteArray} {x : KpX} {M : KpM} {o : Nat → Nat} {w : World} {T : Nat}
theorem trim_le (l : List UInt8) : (Lib.trimSuffix l [10]).length ≤ l.length := by
  unfold Lib.trimSuffix
  split
  · rw [List.length_take]; omega
  · exact Nat.le_refl _
theorem cmd14_any (h : KpIn B sa w0 kb c txt x M o w) (hp : w.heap[pb]? = some (plC kb c)) (htx : txt.size ≤ 100000) :
    Calls Tryz.prog 140 #[.pointer (some ⟨pb, 0, none⟩)] w (SayPost (scDo txt M 13 []).2.1 w) := by
  obtain ⟨p0, p1⟩ := pl_cells hp
  have HB := Lib.hid (kpText_any h)
  have HT := Lib.hid (Tryz.strings_TrimSuffix txt ⟨#[10]⟩ w (by omega))
  have HR := Lib.hid (scReplaceAll_any (strV (scTrim txt.data.toList)) w (by
    rw [strV_size]
    have := trim_le txt.data.toList
    have hz : txt.data.toList.length = txt.size := by rw [Array.length_toList]; rfl
    unfold scTrim
    omega))
  rw [strV_data] at HR
  show Calls _ _ _ _ (SayPost (scConf txt) w)
  unfold scConf
  obtain ⟨ss, hss⟩ : ∃ ss, ss = strV (repN (scTrim txt.data.toList)) := ⟨_, rfl⟩
  rw [← hss] at HR ⊢
  have HT2 : Hid (Calls Tryz.prog 72 #[.string txt, .string ⟨#[10]⟩] w fun e w' => e = .returned (.string (strV (scTrim txt.data.toList))) ∧ w' = w) := HT.out
  obtain ⟨st, hst⟩ : ∃ st, st = strV (scTrim txt.data.toList) := ⟨_, rfl⟩
  rw [← hst] at HR HT2
  unfold SayPost
  clear h hp htx HT hss hst
  go_enter Tryz.func140, Tryz.ntmps140
  go_wp2_with fail
  refine HB.out.mono ?_
  rintro e w1 ⟨rfl, rfl⟩
  go_wp2_with fail
  refine HT2.out.mono ?_
  rintro e w1 ⟨rfl, rfl⟩
  go_wp2_with fail
  refine HR.out.mono ?_
  rintro e w1 ⟨rfl, b1⟩
  go_wp2_with fail
  go_ret
  exact ⟨rfl, b1⟩
end
end Go.Proofs.YtikehilbmldadaaGreatDoor
namespace Go.Proofs.YtikehilbmldadaaGreatDoor
open Go.RowKit
set_option linter.unusedVariables false
theorem say1_any (f b pb : Nat) (nv : Value) (s : ByteArray) (w : World) (he : ∀ args w, (callFunc f args).run Tryz.prog w = .ok (.enter f args) w) (hb : w.heap[b]? = some (.cells #[fnV f] 220))
    (hf : Calls Tryz.prog f #[.pointer (some ⟨pb, 0, none⟩)] w fun e w' => e = .returned (.string s) ∧ Below w.heap.size w w') :
    Calls Tryz.prog 189 #[.pointer (some ⟨pb, 0, none⟩), nv, .pointer (some ⟨b, 0, none⟩)] w fun e w' => e = .returned (.tuple #[.string s, .nilIface]) ∧ Below w.heap.size w w' := by
  have c0 : w.cell? ⟨b, 0, none⟩ = some (.func (.func f) #[] #[]) := by simp [World.cell?, hb, fnV]
  have HF := Lib.hid hf
  clear hb hf
  go_enter Tryz.func189, Tryz.ntmps189
  go_wp2_with fail
  refine HF.out.mono ?_
  rintro e w1 ⟨rfl, hq⟩
  have HQ := Lib.hid hq
  clear hq HF c0
  go_wp2_with fail
  go_ret2
  exact ⟨rfl, HQ.out⟩
end Go.Proofs.YtikehilbmldadaaGreatDoor
namespace Go.Proofs.YtikehilbmldadaaGreatDoor
open Go.RowKit
set_option linter.unusedVariables false
def scPre (i : Nat) (r : List ByteArray) (k : Nat) (ns : List Nat) : Prop := ns.length = k ∧ scNums i 0 r = (scNums i k (r.drop k)).map (ns ++ ·)
theorem scPre_zero (i : Nat) (r : List ByteArray) : scPre i r 0 [] := ⟨rfl, by cases h : scNums i 0 r <;> simp [h]⟩
theorem scNums_drop {i k : Nat} {r : List ByteArray} (hk : k < r.length) : scNums i k (r.drop k) = match scNum r[k] with
    | none => none
    | some n => if k = 0 ∧ i ≠ 3 ∧ i ≠ 4 ∧ 9 < n then none else match scNums i (k + 1) (r.drop (k + 1)) with
      | none => none
      | some l => some (n :: l) := by
  rw [List.drop_eq_getElem_cons hk]
  rfl
theorem scPre_next {i k n : Nat} {r : List ByteArray} {ns : List Nat} (h : scPre i r k ns) (hk : k < r.length) (hn : scNum r[k] = some n) (hg : ¬ (k = 0 ∧ i ≠ 3 ∧ i ≠ 4 ∧ 9 < n)) : scPre i r (k + 1) (ns ++ [n]) := by
  refine ⟨by simp [h.1], ?_⟩
  rw [h.2, scNums_drop hk, hn]
  simp only
  rw [if_neg hg]
  cases scNums i (k + 1) (r.drop (k + 1)) <;> simp
theorem scPre_bad {i k : Nat} {r : List ByteArray} {ns : List Nat} (h : scPre i r k ns) (hk : k < r.length) (hb : scNum r[k] = none ∨ ∃ n, scNum r[k] = some n ∧ (k = 0 ∧ i ≠ 3 ∧ i ≠ 4 ∧ 9 < n)) : scNums i 0 r = none := by
  rw [h.2, scNums_drop hk]
  rcases hb with hb | ⟨n, hb, hg⟩
  · rw [hb]; rfl
  · rw [hb]; simp only; rw [if_pos hg]; rfl
theorem scPre_end {i : Nat} {r : List ByteArray} {ns : List Nat} (h : scPre i r r.length ns) : scNums i 0 r = some ns := by
  rw [h.2, List.drop_length]
  simp [scNums]
theorem scPlay_word {txt : ByteArray} {M : KpM} {line w : ByteArray} {r : List ByteArray} (h : piecesB 32 line = w :: r) (hw : scIdx w = none) : scPlay txt M line = (1, ByteArray.empty, M) := by
  unfold scPlay scAsk
  rw [h]; simp only [hw]
theorem scPlay_many {txt : ByteArray} {M : KpM} {line w : ByteArray} {r : List ByteArray} {i : Nat} (h : piecesB 32 line = w :: r) (hw : scIdx w = some i) (hl : r.length ≠ scMany i) : scPlay txt M line = (1, ByteArray.empty, M) := by
  unfold scPlay scAsk
  rw [h]; simp only [hw]
  rw [if_pos hl]
theorem scPlay_bad {txt : ByteArray} {M : KpM} {line w : ByteArray} {r : List ByteArray} {i : Nat} (h : piecesB 32 line = w :: r) (hw : scIdx w = some i) (hn : scNums i 0 r = none) : scPlay txt M line = (1, ByteArray.empty, M) := by
  unfold scPlay scAsk
  rw [h]; simp only [hw, hn, ite_self]
theorem scAsk_good {line w : ByteArray} {r : List ByteArray} {i : Nat} {ns : List Nat} (h : piecesB 32 line = w :: r) (hw : scIdx w = some i) (hl : r.length = scMany i) (hn : scNums i 0 r = some ns) : scAsk line = some (i, ns) := by
  unfold scAsk
  rw [h]; simp only [hw]
  rw [if_neg (fun hh => hh hl), hn]
theorem scPlay_good {txt : ByteArray} {M : KpM} {line w : ByteArray} {r : List ByteArray} {i : Nat} {ns : List Nat} (h : piecesB 32 line = w :: r) (hw : scIdx w = some i) (hl : r.length = scMany i) (hn : scNums i 0 r = some ns) : scPlay txt M line = scDo txt M i ns := by
  unfold scPlay
  rw [scAsk_good h hw hl hn]
def cmdF : List Nat := [118, 120, 121, 122, 124, 126, 128]
def cmdFn (i : Nat) : Nat := if i < 7 then cmdF.getD i 0 else 189
def cmdCap (b : Nat → Nat) (i : Nat) : Array Value := if i < 7 then #[] else #[.pointer (some ⟨b (i - 7), 0, none⟩)]
theorem cmd14_keys (b : Nat → Nat) : (cmd14 b).map (·.1) = scWords.map (·.1) := rfl
theorem cmd14_nodup (b : Nat → Nat) : ((cmd14 b).map (·.1)).Nodup := by
  rw [cmd14_keys]
  decide
theorem cmd14_at (b : Nat → Nat) (i : Nat) (hi : i < 14) : (cmd14 b)[i]? = some ((scWords.getD i (ByteArray.empty, 0)).1, cmdV (scMany i) (.func (.func (cmdFn i)) #[] (cmdCap b i))) := by
  match i, hi with
  | 0, _ => rfl
  | 1, _ => rfl
  | 2, _ => rfl
  | 3, _ => rfl
  | 4, _ => rfl
  | 5, _ => rfl
  | 6, _ => rfl
  | 7, _ => rfl
  | 8, _ => rfl
  | 9, _ => rfl
  | 10, _ => rfl
  | 11, _ => rfl
  | 12, _ => rfl
  | 13, _ => rfl
theorem findS_none {L : List (ByteArray × Value)} {s : ByteArray} (h : L.findIdx? (fun p => p.1.data.toList == s.data.toList) = none) : findS L s = none := by
  unfold findS
  rw [List.findIdx?_eq_none_iff] at h
  rw [List.find?_eq_none.2 (fun x hx => by rw [h x hx]; decide)]
  rfl
theorem findS_some {L : List (ByteArray × Value)} {s k : ByteArray} {v : Value} {i : Nat} (h : L.findIdx? (fun p => p.1.data.toList == s.data.toList) = some i) (hi : L[i]? = some (k, v)) : findS L s = some v := by
  unfold findS
  rw [List.findIdx?_eq_some_iff_getElem] at h
  obtain ⟨hl, h1, h2⟩ := h
  have : L.find? (fun p => p.1.data.toList == s.data.toList) = some L[i] := by
    rw [List.find?_eq_some_iff_getElem]
    exact ⟨h1, i, hl, rfl, fun j hj => by have := h2 j hj; simpa using this⟩
  rw [this]
  rw [List.getElem?_eq_getElem hl] at hi
  rw [Option.some.inj hi]
  rfl
theorem cmd14_idx (b : Nat → Nat) (s : ByteArray) : (cmd14 b).findIdx? (fun p => p.1.data.toList == s.data.toList) = scIdx s := by
  have e : scWords.findIdx? (fun p => p.1.data.toList == s.data.toList) = (scWords.map (·.1)).findIdx? (fun p => p.data.toList == s.data.toList) := by rw [List.findIdx?_map]; rfl
  have e2 : (cmd14 b).findIdx? (fun p => p.1.data.toList == s.data.toList) = ((cmd14 b).map (·.1)).findIdx? (fun p => p.data.toList == s.data.toList) := by rw [List.findIdx?_map]; rfl
  unfold scIdx
  rw [e, e2, cmd14_keys]
theorem cmd_none (b : Nat → Nat) {s : ByteArray} (h : scIdx s = none) : findS (cmd14 b) s = none := findS_none (by rw [cmd14_idx]; exact h)
theorem scIdx_lt {s : ByteArray} {i : Nat} (h : scIdx s = some i) : i < 14 := by
  unfold scIdx at h
  obtain ⟨hlt, _⟩ := List.findIdx?_eq_some_iff_getElem.1 h
  exact hlt
theorem cmd_some (b : Nat → Nat) {s : ByteArray} {i : Nat} (h : scIdx s = some i) : findS (cmd14 b) s = some (cmdV (scMany i) (.func (.func (cmdFn i)) #[] (cmdCap b i))) :=
  findS_some (by rw [cmd14_idx]; exact h) (cmd14_at b i (scIdx_lt h))
theorem scIdx_word {s : ByteArray} {i : Nat} (h : scIdx s = some i) : s = (scWords.getD i (ByteArray.empty, 0)).1 := by
  have hl := scIdx_lt h
  unfold scIdx at h
  obtain ⟨hlt, h1, _⟩ := List.findIdx?_eq_some_iff_getElem.1 h
  rw [List.getD_eq_getElem?_getD, List.getElem?_eq_getElem hlt]
  exact (beq_data.1 h1).symm
theorem scIdx_tick {s : ByteArray} {i : Nat} (h : scIdx s = some i) : (s.toList == [116, 105, 99, 107]) = decide (i = 3) ∧ (s.toList == [99, 117, 116]) = decide (i = 4) := by
  have hw := scIdx_word h
  have hl := scIdx_lt h
  rw [ByteArray.toList_eq, hw]
  match i, hl with
  | 0, _ => decide
  | 1, _ => decide
  | 2, _ => decide
  | 3, _ => decide
  | 4, _ => decide
  | 5, _ => decide
  | 6, _ => decide
  | 7, _ => decide
  | 8, _ => decide
  | 9, _ => decide
  | 10, _ => decide
  | 11, _ => decide
  | 12, _ => decide
  | 13, _ => decide
end Go.Proofs.YtikehilbmldadaaGreatDoor
namespace Go.Proofs.YtikehilbmldadaaGreatDoor
open Go.RowKit
set_option linter.unusedVariables false
theorem owns_ints {w : World} {p : Nat} {nv : Value} {ns : List Nat} (hn : w.ownsRow p 3 1 nv ns.length (intCells (ns.map fun n : Nat => (n : Int)))) (h0 : 0 < ns.length) :
    ∃ g cap, nv = .slice (some ⟨g, 0, none⟩) ns.length cap ∧ p ≤ g ∧ ∀ k (hk : k < ns.length), w.cell? ⟨g, k, none⟩ = some (.int .i64 (ns[k] : Nat)) := by
  have hsl := slOf_owns hn
  rcases hn.2 with ⟨_, h⟩ | ⟨g, cap, cur, rfl, hp, _⟩
  · omega
  · obtain ⟨hl, ao, cap', hv, h1, h2, h3, h4⟩ := hsl
    injection hv with e1 e2 e3
    subst e1
    obtain ⟨b, off, ha, hR, hb, hc⟩ := h4 (by rw [hl]; omega)
    injection ha with ha
    injection ha with ea eb
    subst ea; subst eb
    refine ⟨g, cap, rfl, hp, fun k hk => ?_⟩
    have := hc k (.int .i64 (ns[k] : Nat)) (by simp [intCells, hk])
    rwa [Nat.zero_add] at this
section
variable {B : Nat} {sa : Nat → Addr} {w0 : World} {kb c pb : Nat} {txt : ByteArray} {x : KpX} {M : KpM} {o : Nat → Nat} {w : World} {T : Nat}
theorem SayPost.go {s : ByteArray} {i : Nat} (h : KpIn B sa w0 kb c txt x M o w) (he : scDo txt M i [] = (0, s, M)) {e : Ending} {w' : World} (hs : e = .returned (.tuple #[.string s, .nilIface]) ∧ Below w.heap.size w w') : DoPost B sa w0 kb c txt (scDo txt M i []) o w e w' := by
  rw [he]
  exact ⟨hs.1, x, o, h.below hs.2, Fr.below o hs.2⟩
theorem enters8 : ∀ k, k < 7 → ∀ args w, (callFunc (sayF.getD k 0) args).run Tryz.prog w = .ok (.enter (sayF.getD k 0) args) w := by
  intro k hk
  match k, hk with
  | 0, _ => exact enters_of Tryz.func131 (by kernel_rfl) rfl
  | 1, _ => exact enters_of Tryz.func132 (by kernel_rfl) rfl
  | 2, _ => exact enters_of Tryz.func133 (by kernel_rfl) rfl
  | 3, _ => exact enters_of Tryz.func134 (by kernel_rfl) rfl
  | 4, _ => exact enters_of Tryz.func135 (by kernel_rfl) rfl
  | 5, _ => exact enters_of Tryz.func138 (by kernel_rfl) rfl
  | 6, _ => exact enters_of Tryz.func140 (by kernel_rfl) rfl
theorem enters_cmd : ∀ i, i < 14 → ∀ args w, (callFunc (cmdFn i) args).run Tryz.prog w = .ok (.enter (cmdFn i) args) w := by
  intro i hi
  match i, hi with
  | 0, _ => exact enters_of Tryz.func118 (by kernel_rfl) rfl
  | 1, _ => exact enters_of Tryz.func120 (by kernel_rfl) rfl
  | 2, _ => exact enters_of Tryz.func121 (by kernel_rfl) rfl
  | 3, _ => exact enters_of Tryz.func122 (by kernel_rfl) rfl
  | 4, _ => exact enters_of Tryz.func124 (by kernel_rfl) rfl
  | 5, _ => exact enters_of Tryz.func126 (by kernel_rfl) rfl
  | 6, _ => exact enters_of Tryz.func128 (by kernel_rfl) rfl
  | 7, _ => exact enters_of Tryz.func189 (by kernel_rfl) rfl
  | 8, _ => exact enters_of Tryz.func189 (by kernel_rfl) rfl
  | 9, _ => exact enters_of Tryz.func189 (by kernel_rfl) rfl
  | 10, _ => exact enters_of Tryz.func189 (by kernel_rfl) rfl
  | 11, _ => exact enters_of Tryz.func189 (by kernel_rfl) rfl
  | 12, _ => exact enters_of Tryz.func189 (by kernel_rfl) rfl
  | 13, _ => exact enters_of Tryz.func189 (by kernel_rfl) rfl
theorem do_any (h : KpIn B sa w0 kb c txt x M o w) (hO : KpOk M T) (hT : TabB B w) (hp : w.heap[pb]? = some (plC kb c)) (ho : o pb = 0) (htx : txt.size ≤ 100000) {i : Nat} {ns : List Nat} (hi : i < 14) (hl : ns.length = scMany i) (hTT : T + 2 * (if i = 3 then ns.getD 0 0 else 0) ≤ 400000)
    (b : Nat → Nat) (hb : ∀ k, k < 7 → w.heap[b k]? = some (.cells #[fnV (sayF.getD k 0)] 220)) (p : Nat) (nv : Value) (hn : w.ownsRow p 3 1 nv ns.length (intCells (ns.map fun n : Nat => (n : Int)))) (hno : ∀ q, nv.ownBlock = some q → o q = 0) :
    Calls Tryz.prog (cmdFn i) (#[.pointer (some ⟨pb, 0, none⟩), nv] ++ cmdCap b i) w (DoPost B sa w0 kb c txt (scDo txt M i ns) o w) := by
  have one : ns.length = 1 → ∃ n0 g cap, ns = [n0] ∧ nv = .slice (some ⟨g, 0, none⟩) 1 cap ∧ o g = 0 ∧ w.cell? ⟨g, 0, none⟩ = some (.int .i64 (n0 : Nat)) := by
    intro h1
    obtain ⟨g, cap, rfl, _, hc⟩ := owns_ints hn (by omega)
    obtain ⟨n0, rfl⟩ := List.length_eq_one_iff.1 h1
    exact ⟨n0, g, cap, rfl, rfl, hno g rfl, hc 0 (by simp)⟩
  match i, hi with
  | 0, _ =>
    obtain ⟨n0, g, cap, rfl, rfl, hg, h0⟩ := one hl
    exact cmd1_any h hO hp ho g cap n0 h0 hg
  | 1, _ =>
    obtain ⟨n0, g, cap, rfl, rfl, hg, h0⟩ := one hl
    exact cmd2_any h hO hp ho g cap n0 h0 hg
  | 2, _ =>
    have h2 : ns.length = 2 := hl
    obtain ⟨g, cap, rfl, _, hc⟩ := owns_ints hn (by omega)
    obtain ⟨n0, n1, rfl⟩ : ∃ n0 n1, ns = [n0, n1] := (match ns, h2 with | [a, b], _ => ⟨a, b, rfl⟩)
    exact cmd3_any h hO hp ho g cap n0 n1 (hc 0 (by simp)) (hc 1 (by simp)) (hno g rfl)
  | 3, _ =>
    obtain ⟨n0, g, cap, rfl, rfl, hg, h0⟩ := one hl
    exact cmd4_any h hO hp ho g cap n0 h0 hg (by simpa using hTT)
  | 4, _ =>
    obtain ⟨n0, g, cap, rfl, rfl, hg, h0⟩ := one hl
    exact cmd5_any h hO hp ho g cap n0 h0 hg
  | 5, _ =>
    obtain rfl := List.eq_nil_of_length_eq_zero (show ns.length = 0 from hl)
    exact cmd6_any h hO hp ho nv
  | 6, _ =>
    obtain ⟨n0, g, cap, rfl, rfl, hg, h0⟩ := one hl
    exact cmd7_any h hp g cap n0 h0
  | 7, _ =>
    obtain rfl := List.eq_nil_of_length_eq_zero (show ns.length = 0 from hl)
    exact (say1_any _ (b 0) pb nv _ w (enters8 0 (by decide)) (hb 0 (by decide)) (cmd8_any h hO hT hp)).mono (fun e w' hs => SayPost.go h rfl hs)
  | 8, _ =>
    obtain rfl := List.eq_nil_of_length_eq_zero (show ns.length = 0 from hl)
    exact (say1_any _ (b 1) pb nv _ w (enters8 1 (by decide)) (hb 1 (by decide)) (cmd9_any h hO hT hp)).mono (fun e w' hs => SayPost.go h rfl hs)
  | 9, _ =>
    obtain rfl := List.eq_nil_of_length_eq_zero (show ns.length = 0 from hl)
    exact (say1_any _ (b 2) pb nv _ w (enters8 2 (by decide)) (hb 2 (by decide)) (cmd10_any h hp)).mono (fun e w' hs => SayPost.go h rfl hs)
  | 10, _ =>
    obtain rfl := List.eq_nil_of_length_eq_zero (show ns.length = 0 from hl)
    exact (say1_any _ (b 3) pb nv _ w (enters8 3 (by decide)) (hb 3 (by decide)) (cmd11_any h hp)).mono (fun e w' hs => SayPost.go h rfl hs)
  | 11, _ =>
    obtain rfl := List.eq_nil_of_length_eq_zero (show ns.length = 0 from hl)
    exact (say1_any _ (b 4) pb nv _ w (enters8 4 (by decide)) (hb 4 (by decide)) (cmd12_any h hO hT hp)).mono (fun e w' hs => SayPost.go h rfl hs)
  | 12, _ =>
    obtain rfl := List.eq_nil_of_length_eq_zero (show ns.length = 0 from hl)
    exact (say1_any _ (b 5) pb nv _ w (enters8 5 (by decide)) (hb 5 (by decide)) (cmd13_any h hO hT hp)).mono (fun e w' hs => SayPost.go h rfl hs)
  | 13, _ =>
    obtain rfl := List.eq_nil_of_length_eq_zero (show ns.length = 0 from hl)
    exact (say1_any _ (b 6) pb nv _ w (enters8 6 (by decide)) (hb 6 (by decide)) (cmd14_any h hp htx)).mono (fun e w' hs => SayPost.go h rfl hs)
end
end Go.Proofs.YtikehilbmldadaaGreatDoor
