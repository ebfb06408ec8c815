import Derived.Test.YtikehilbmldadaaGreatDoorQ37
import Derived.Test.YtikehilbmldadaaGreatDoorQ25
import Derived.Test.YtikehilbmldadaaGreatDoorQ45
import Derived.Test.YtikehilbmldadaaGreatDoorQ24
import Derived.Deep.DeepMust
import Derived.BigQuiet
import Derived.Test.YtikehilbmldadaaGreatDoorQ12
import Derived.Test.YtikehilbmldadaaGreatDoorQ22
import Derived.Deep.RegionHeld3
import Derived.Test.YtikehilbmldadaaGreatDoorQ30
set_option maxHeartbeats 8000000
set_option maxRecDepth 100000
namespace Go.Proofs.YtikehilbmldadaaGreatDoor
open Go.RowKit
set_option linter.unusedVariables false
theorem Tryz.methodError (v : Value) (w : World) : (Go.method 514 372 v "Error").run Tryz.prog w = .ok (349, v) w := by kernel_rfl
theorem errText_any (a : Addr) (s : ByteArray) (w : World) (h : w.cell? a = some (.string s)) :
    Calls Tryz.prog 349 #[.pointer (some a)] w fun e w' => e = .returned (.string s) ∧ w = w' := by
  obtain ⟨b, off, sp⟩ := a
  obtain rfl : sp = none := World.cell?_spot h
  go_enter Tryz.func349, Tryz.ntmps349
  go_wp2_with fail
  go_ret
  exact ⟨rfl, rfl⟩
structure RunC (B : Nat) (sa : Nat → Addr) (w0 : World) (kb c pb : Nat) (txt : ByteArray) (p k : Nat) (cs : List Value) (v : Value) (x : KpX) (M : KpM) (o : Nat → Nat) (wr : World) : Prop where
  kp : KpIn B sa w0 kb c txt x M o wr
  own : OwnAt wr p 9 1 v k cs
  vo : ∀ b, v.ownBlock = some b → o b = 0
  pl : wr.heap[pb]? = some (plC kb c)
  po : o pb = 0
  lo : w0.heap.size ≤ p
  hi : p ≤ wr.heap.size
  pp : pb < p
section
variable {B : Nat} {sa : Nat → Addr} {w0 : World} {kb c pb : Nat} {txt : ByteArray} {p k : Nat} {cs : List Value} {v : Value} {x : KpX} {M : KpM} {o : Nat → Nat} {wr : World}
theorem RunC.play {x' : KpX} {M' : KpM} {o' : Nat → Nat} {w' : World} (h : RunC B sa w0 kb c pb txt p k cs v x M o wr) (hk : KpIn B sa w0 kb c txt x' M' o' w') (hf : Fr o o' wr w') : RunC B sa w0 kb c pb txt p k cs v x' M' o' w' :=
  ⟨hk, h.own.keep hf.kp (fun b hb hh => hh (h.vo b hb)), fun b hb => by rw [hf.agree b (h.own.lt b hb).2]; exact h.vo b hb, hf.kp.get h.pl (fun hh => hh h.po), by rw [hf.agree pb (lt_of_get h.pl)]; exact h.po, h.lo, Nat.le_trans h.hi hf.kp.size, h.pp⟩
theorem RunC.below {w' : World} (h : RunC B sa w0 kb c pb txt p k cs v x M o wr) (b : Below wr.heap.size wr w') : RunC B sa w0 kb c pb txt p k cs v x M o w' := h.play (h.kp.below b) (Fr.below o b)
theorem RunC.app {W w' : World} {a2 : Option Addr} {k2 : Nat} {cs' : List Value} (h : RunC B sa w0 kb c pb txt p k cs v x M o wr) (hb : Below wr.heap.size wr W) (ho : OwnAt w' p 9 1 (.slice a2 (k + 1) k2) (k + 1) cs') (hg : W.grownBy w' v.ownBlock)
    (hn : (Value.slice a2 (k + 1) k2).ownBlock = v.ownBlock ∨ ∀ b, (Value.slice a2 (k + 1) k2).ownBlock = some b → W.heap.size ≤ b) : RunC B sa w0 kb c pb txt p (k + 1) cs' (.slice a2 (k + 1) k2) x M o w' := by
  have hW := h.below hb
  have kg : Keep (fun b => some b = v.ownBlock) W w' := Keep.of_grown hg
  have hl := fun b (hh : some b = v.ownBlock) => (hW.own.lt b hh.symm)
  refine ⟨hW.kp.far kg (fun b hbl hh => ⟨hW.vo b hh.symm, Nat.le_trans hW.lo (hl b hh).1⟩), ho, fun b hb => ?_, kg.get hW.pl (fun hh => by have := (hl pb hh).1; have := hW.pp; omega), hW.po, hW.lo, Nat.le_trans hW.hi kg.size, hW.pp⟩
  rcases hn with hn | hn
  · rw [hn] at hb; exact hW.vo b hb
  · have h2 := hn b hb
    cases hz : o b with
    | zero => rfl
    | succ z => have := (hW.kp.b.low b (by rw [hz]; exact Nat.succ_ne_zero z)).2; omega
end
structure RunSt (B : Nat) (sa : Nat → Addr) (w0 : World) (kb c pb : Nat) (txt : ByteArray) (p : Nat) (M0 : KpM) (lines : List ByteArray) (k : Nat) (v : Value) (wr : World) : Prop where
  st : ∃ x o, RunC B sa w0 kb c pb txt p k (strCells1 (scRun txt M0 (lines.take k)).1) v x (scRun txt M0 (lines.take k)).2 o wr
  ok : KpOk (scRun txt M0 (lines.take k)).2 (2 * scTks (lines.take k))
theorem scTks_le (lines : List ByteArray) (k : Nat) : scTks (lines.take k) ≤ scTks lines := by
  have e : (lines.map scTk).sum = ((lines.take k).map scTk).sum + ((lines.drop k).map scTk).sum := by rw [← List.sum_append, ← List.map_append, List.take_append_drop]
  unfold scTks
  omega
theorem scRun_next {txt : ByteArray} {M0 : KpM} {lines : List ByteArray} {k : Nat} (hk : k < lines.length) :
    scRun txt M0 (lines.take (k + 1)) = ((scRun txt M0 (lines.take k)).1 ++ [(scLine txt (scRun txt M0 (lines.take k)).2 lines[k]).1], (scLine txt (scRun txt M0 (lines.take k)).2 lines[k]).2) ∧ scTks (lines.take (k + 1)) = scTks (lines.take k) + scTk lines[k] := by
  rw [List.take_succ_eq_append_getElem hk]
  exact ⟨scRun_snoc txt _ _ _, scTks_snoc _ _⟩
theorem RunSt.next {B : Nat} {sa : Nat → Addr} {w0 : World} {kb c pb : Nat} {txt : ByteArray} {p : Nat} {M0 : KpM} {lines : List ByteArray} {k : Nat} {w' : World} {a2 : Option Addr} {k2 : Nat} {x : KpX} {o : Nat → Nat} {S : ByteArray} (hk : k < lines.length)
    (ok : KpOk (scRun txt M0 (lines.take k)).2 (2 * scTks (lines.take k))) (ht : 2 * scTks lines ≤ 400000) (hS : S = (scLine txt (scRun txt M0 (lines.take k)).2 lines[k]).1)
    (h : RunC B sa w0 kb c pb txt p (k + 1) (strCells1 (scRun txt M0 (lines.take k)).1 ++ [.string S]) (.slice a2 (k + 1) k2) x (scLine txt (scRun txt M0 (lines.take k)).2 lines[k]).2 o w') :
    RunSt B sa w0 kb c pb txt p M0 lines (k + 1) (.slice a2 (k + 1) k2) w' := by
  obtain ⟨e1, e2⟩ := scRun_next (txt := txt) (M0 := M0) hk
  have hle := scTks_le lines (k + 1)
  refine ⟨⟨x, o, ?_⟩, ?_⟩
  · rw [e1, strCells_snoc, ← hS]; exact h
  · rw [e1, e2, Nat.mul_add]
    exact scLine_ok ok (by omega)
end Go.Proofs.YtikehilbmldadaaGreatDoor
namespace Go.Proofs.YtikehilbmldadaaGreatDoor
open Go.RowKit
set_option linter.unusedVariables false
theorem kpOn_le (M : KpM) : kpOn M ≤ 11 := by
  unfold kpOn
  repeat' split
  all_goals omega
theorem kpAsk_le (M : KpM) (i : Int) : kpAsk M i ≤ 11 := by
  have := kpOn_le M
  unfold kpAsk
  repeat' split
  all_goals omega
theorem dogTickE_le (D : DogM) : dogTickE D ≤ 11 := by
  unfold dogTickE
  repeat' split
  all_goals omega
theorem kpTick_le {M : KpM} {T : Nat} (h : KpOk M T) (hT : T + 2 ≤ 400000) : (kpTick M).1 ≤ 11 := by
  unfold kpTick
  split
  · exact kpOn_le M
  · rename_i hon
    split
    · exact dogTickE_le _
    · rename_i he
      split
      · exact Nat.le_refl 11
      · split
        · obtain ⟨h1, _, _⟩ := kpDog_ok h (by omega) (by omega)
          have hoff : (kpDog M).m.off = false := by
            show M.m.off = false
            cases hh : M.m.off
            · rfl
            · exfalso; apply hon; unfold kpOn; rw [if_pos hh]; decide
          obtain ⟨_, _, h3⟩ := kpEndN_mid h1 hoff (kpDog M).A.length (Nat.le_refl _)
          unfold kpEnd
          split
          · omega
          · exact Nat.zero_le _
        · exact Nat.zero_le _
theorem kpTicks_le {M : KpM} {T : Nat} (h : KpOk M T) : ∀ k, T + 2 * k ≤ 400000 → (kpTicks M k).1 ≤ 11
  | 0, _ => Nat.zero_le _
  | k + 1, hk => by
    have ih := kpTicks_le h k (by omega)
    have hO := kpTicks_ok h k (by omega)
    unfold kpTicks
    split
    · exact ih
    · exact kpTick_le hO (by omega)
theorem scPlay_le {txt : ByteArray} {M : KpM} {line : ByteArray} {T : Nat} (h : KpOk M T) (hT : T + 2 * scTk line ≤ 400000) : (scPlay txt M line).1 ≤ 11 := by
  unfold scPlay
  cases ha : scAsk line with
  | none => show 1 ≤ 11; omega
  | some q =>
    obtain ⟨i, ns⟩ := q
    rw [scTk_line ha] at hT
    show (scDo txt M i ns).1 ≤ 11
    unfold scDo
    split <;> simp only
    · unfold kpBegin
      have := kpAsk_le M (ns.getD 0 0 : Nat)
      repeat' split
      all_goals (first | omega | (simp only; omega))
    · unfold kpStop
      have := kpAsk_le M (ns.getD 0 0 : Nat)
      repeat' split
      all_goals (first | omega | (simp only; omega))
    · unfold kpReport
      have := kpAsk_le M (ns.getD 0 0 : Nat)
      repeat' split
      all_goals (first | omega | (simp only; omega))
    · exact kpTicks_le h _ (by simpa using hT)
    · unfold cutE
      repeat' split
      all_goals (first | omega | (simp only; omega))
    · unfold kpBoot
      repeat' split
      all_goals (first | omega | (simp only; omega))
    · split <;> simp only <;> omega
    all_goals omega
end Go.Proofs.YtikehilbmldadaaGreatDoor
namespace Go.Proofs.YtikehilbmldadaaGreatDoor
open Go.RowKit
set_option linter.unusedVariables false
theorem scRun_good (B : Nat) (sa : Nat → Addr) (config : ByteArray) (lines : List ByteArray) (v : Value) (R : Nat → Prop) (w : World) (hS : Sents B sa w) (hE : ∀ k, k < 11 → w.cell? (sa k) = some (.string (scErr (k + 1)))) (hN : NumB B w) (hT : TabB w.heap.size w) (hl : SlOf R w v 1 (strCells1 lines) lines.length) (hR : ∀ b, R b → b < w.heap.size)
    (hcs : config.size ≤ 4000) (hls : ∀ s ∈ lines, s.size ≤ 100000) (htk : 2 * scTks lines ≤ 400000) (h100 : lines.length ≤ 100) {C : ConfV} (hr : readF config = (C, (0, -1))) :
    Calls Tryz.prog 8 #[.string config, v] w fun e w' => ∃ ao cap, e = .returned (.tuple #[.slice ao lines.length cap, .nilIface]) ∧ OwnAt w' w.heap.size 9 1 (.slice ao lines.length cap) lines.length (strCells1 (scRun (txtOf C) (kp0 C) lines).1) ∧ Below w.heap.size w w' := by
  obtain ⟨i0, hi0, hz0, hz1, hz2⟩ := info_parts Tryz.infoStr
  obtain ⟨C', hr', hC, hcut⟩ := readF_good (s := config) (by rw [hr])
  rw [hr] at hr'
  obtain rfl : C = C' := (Prod.mk.inj hr').1
  have hbk := cut_back config
  have hsz : config.data.toList.length = config.size := by rw [Array.length_toList]; rfl
  have h8 : (textB C).length ≤ 8000 := by
    rw [hcut]
    rcases hbk with h | h
    · rw [h]; omega
    · rw [h, List.length_append]; simp; omega
  obtain ⟨sao, scap, rfl⟩ := hl.val
  have HRd := Lib.hid (read_any B sa config w hS.c hN (by omega) (fun k hk h => by have := lines_count hk h; omega))
  rw [hr] at HRd
  unfold ReadPost at HRd
  have HKn := Lib.hid (fun (W : World) (hW : Below w.heap.size w W) R' v X (hX : ConfSl R' W C v X) (hR' : ∀ b, R' b → b < W.heap.size) c rb cap (hm : CellsAt W c rb (some ⟨rb, 0, none⟩) cap blank) (hc : w.heap.size ≤ c ∧ w.heap.size ≤ rb) => kpNew_any B sa R' C v X w W c rb cap blank (hS.k.below hW) (hN.below hW hS.top) (fun W' hW' => hT W' (hW.trans (hW'.mono hW.size))) hX hR' hC h8 hW hS.top hm hc (by rw [blank_len]; decide) rfl)
  have htx : (txtOf C).size ≤ 100000 := by unfold txtOf; rw [size_arr]; omega
  have HK0 := Lib.hid (kp0_ok hC)
  have HPl := Lib.hid (fun (k : Nat) (hk : k < lines.length) wr (x : KpX) (M : KpM) (o : Nat → Nat) kb c pb (h : KpIn B sa w kb c (txtOf C) x M o wr) (hO : KpOk M (2 * scTks (lines.take k))) (hp : wr.heap[pb]? = some (plC kb c)) (ho : o pb = 0) =>
    (show (scPlay (txtOf C) M lines[k]).1 ≤ 11 ∧ Calls Tryz.prog 39 #[.pointer (some ⟨pb, 0, none⟩), .string lines[k]] wr (DoPost B sa w kb c (txtOf C) (scPlay (txtOf C) M lines[k]) o wr) from by
      have h1 := scTks_le lines (k + 1)
      have h2 := (scRun_next (txt := txtOf C) (M0 := M) hk).2
      exact ⟨scPlay_le hO (by omega), play_any lines[k] h hO (hN.below h.b.bel hS.top) hp ho htx (hls _ (List.getElem_mem hk)) (by omega)⟩))
  have HS := Lib.hid hS
  have HE := Lib.hid hE
  have HTK := Lib.hid htk
  obtain ⟨M0, hM0⟩ : ∃ M0, M0 = kp0 C := ⟨_, rfl⟩
  obtain ⟨txt, htxt⟩ : ∃ txt, txt = txtOf C := ⟨_, rfl⟩
  have HKn2 : Hid (∀ (W : World) (hW : Below w.heap.size w W) R' v X (hX : ConfSl R' W C v X) (hR' : ∀ b, R' b → b < W.heap.size) c rb cap (hm : CellsAt W c rb (some ⟨rb, 0, none⟩) cap blank) (hc : w.heap.size ≤ c ∧ w.heap.size ≤ rb), Calls Tryz.prog 38 #[.agg (confCs C v), .pointer (some ⟨c, 0, none⟩)] W fun e w' => ∃ kb x o, e = .returned (.tuple #[.pointer (some ⟨kb, 0, none⟩), .nilIface]) ∧ KpIn B sa w kb c txt x M0 o w') := (show ∀ (W : World) (hW : Below w.heap.size w W) R' v X (hX : ConfSl R' W C v X) (hR' : ∀ b, R' b → b < W.heap.size) c rb cap (hm : CellsAt W c rb (some ⟨rb, 0, none⟩) cap blank) (hc : w.heap.size ≤ c ∧ w.heap.size ≤ rb), Calls Tryz.prog 38 #[.agg (confCs C v), .pointer (some ⟨c, 0, none⟩)] W fun e w' => ∃ kb x o, e = .returned (.tuple #[.pointer (some ⟨kb, 0, none⟩), .nilIface]) ∧ KpIn B sa w kb c txt x M0 o w' from
    fun W hW R' v X hX hR' c rb cap hm hc => (HKn.out W hW R' v X hX hR' c rb cap hm hc).mono (fun e w' hh => by
      obtain ⟨kb, x, o, h1, h2, _, _⟩ := hh
      rw [hM0, htxt]
      exact ⟨kb, x, o, h1, h2⟩))
  rw [← htxt] at HPl
  rw [← hM0] at HK0
  rw [← hM0, ← htxt]
  obtain ⟨n, hn⟩ : ∃ n, n = lines.length := ⟨_, rfl⟩
  have HN := Lib.hid hn
  have HL : Hid (∀ k (hk : k < lines.length), ∃ lb lo, sao = some ⟨lb, lo, none⟩ ∧ lb < w.heap.size ∧ w.cell? ⟨lb, lo + k, none⟩ = some (.string lines[k])) := (show ∀ k (hk : k < lines.length), ∃ lb lo, sao = some ⟨lb, lo, none⟩ ∧ lb < w.heap.size ∧ w.cell? ⟨lb, lo + k, none⟩ = some (.string lines[k]) from fun k hk => by
    obtain ⟨lb, lo, e1, _, e2, e3⟩ := str_cells hl (by omega)
    exact ⟨lb, lo, e1, e2, e3 k hk⟩)
  have h100I : (n : Int) ≤ 100 := by omega
  rw [← hn]
  clear hS hE hN hT hl hR hcs hls htk h100 hr hr' hC hcut hbk hsz h8 HKn htx hM0 htxt hn
  go_enter Tryz.func8, Tryz.ntmps8
  go_wp2_with fail
  refine HRd.out.mono ?_
  rintro e w1 ⟨a9, n9, k9, u, X9, rfl, hu, hcs, -, b1⟩
  have hu0 : u = .nilIface := by
    rcases hu with ⟨_, hu⟩ | ⟨_, hc0, _⟩
    · rw [hu]; rfl
    · exact absurd hc0 (Nat.lt_irrefl 0)
  subst hu0
  have HCS := Lib.hid (hcs trivial)
  have hxb := get_alloc_new w1 (.cells (confCs C (.slice a9 n9 k9)) 30)
  have hbb : Below w1.heap.size w1 (w1.alloc (.cells (confCs C (.slice a9 n9 k9)) 30)) := (Below.refl _ _).alloc (Nat.le_refl _) _
  have HB1 := Lib.hid b1
  clear hu hcs b1 HRd
  unfold confCs at hxb hbb HKn2 ⊢
  go_upto_region 4 with fail
  generalize w1.alloc _ = w2 at hxb hbb ⊢
  have hxb2 : w2.heap[w1.heap.size]? = some (.cells (confCs C (.slice a9 n9 k9)) 30) := hxb
  obtain ⟨cb, hcb⟩ : ∃ cb, cb = w1.heap.size := ⟨_, rfl⟩
  rw [← hcb] at hxb2 ⊢
  have HX2 := Lib.hid hxb2
  have HCS2 := Lib.hid (HCS.out.below hbb (fun b hb => hb.2))
  have HB2 := Lib.hid (HB1.out.trans (hbb.mono HB1.out.size))
  have HR2 := Lib.hid (show ∀ b, w.heap.size ≤ b ∧ b < w1.heap.size → b < w2.heap.size from fun b hb => Nat.lt_of_lt_of_le hb.2 hbb.size)
  have HCn := Lib.hid (cellsNew_blank w2)
  clear hxb hbb hxb2 hcb HCS HB1
  go_wp2_with fail
  refine HCn.out.mono ?_
  rintro e w3 ⟨c, rb, cap, rfl, hm, hc, b3⟩
  have hx3 := below_get b3 HX2.out (lt_of_get HX2.out)
  obtain ⟨d0, d1, d2, d3, d4⟩ := conf_cells hx3
  have HB3 := Lib.hid (HB2.out.trans (b3.mono HB2.out.size))
  have HKw := Lib.hid (HKn2.out w3 HB3.out _ _ X9 (HCS2.out.below b3 HR2.out) (fun b hb => Nat.lt_of_lt_of_le (HR2.out b hb) b3.size) c rb cap hm (by have := HB2.out.size; omega))
  clear hm hc b3 hx3 HX2 HCS2 HR2 HCn HKn2 HB2
  go_wp2_with fail
  refine HKw.out.mono ?_
  rintro e w4 ⟨kb, x, o, rfl, z⟩
  have HZ := Lib.hid z
  have hpl := get_alloc_new w4 (plC kb c)
  have hpb : Below w4.heap.size w4 (w4.alloc (plC kb c)) := (Below.refl _ _).alloc (Nat.le_refl _) _
  unfold plC at hpl hpb
  clear z d0 d1 d2 d3 d4 HKw
  go_upto_region 13 with fail
  obtain ⟨w5, hw5⟩ : ∃ w5, w5 = w4.alloc (.cells #[.pointer (some ⟨kb, 0, none⟩), .pointer (some ⟨c, 0, none⟩)] 98) := ⟨_, rfl⟩
  rw [← hw5] at hpl hpb ⊢
  clear hw5
  obtain ⟨pb, hpbq⟩ : ∃ pb, pb = w4.heap.size := ⟨_, rfl⟩
  rw [← hpbq] at hpl ⊢
  have HST0 : Hid (RunSt B sa w kb c pb txt w5.heap.size M0 lines 0 (.slice none 0 0) w5) := (show RunSt B sa w kb c pb txt w5.heap.size M0 lines 0 (.slice none 0 0) w5 from
    ⟨⟨x, o, HZ.out.below hpb, ⟨rfl, .inl ⟨rfl, rfl⟩⟩, (fun b hb => by cases hb), hpl, by
      cases hz : o pb with
      | zero => rfl
      | succ z => have := (HZ.out.b.low pb (by rw [hz]; exact Nat.succ_ne_zero z)).2; omega,
      Nat.le_trans HZ.out.b.bel.size hpb.size, Nat.le_refl _, lt_of_get hpl⟩, by
      show KpOk M0 (2 * scTks [])
      exact HK0.out⟩)
  have hpw : w.heap.size ≤ w5.heap.size := Nat.le_trans HZ.out.b.bel.size hpb.size
  have HPW := Lib.hid hpw
  clear hpl hpb hpbq HZ hpw
  generalize hp5 : w5.heap.size = p at HST0 HPW
  clear hp5
  go_wp2_with fail
  go_loopw [11, 50] (fun s11 s50 wr => ∃ (k : Nat) (a1 : Option Addr) (j1 : Nat), k ≤ n ∧ s11 = .slice a1 k j1 ∧ s50 = .int .i64 k ∧ Hid (RunSt B sa w kb c pb txt p M0 lines k (.slice a1 k j1) wr)) (fun _ s50 _ => n - (intOf s50).toNat)
  case atStart => exact ⟨0, none, 0, Nat.zero_le _, rfl, rfl, HST0⟩
  case round =>
    obtain ⟨k, a1, j1, hk, rfl, rfl, hst⟩ := hrel
    clear HST0
    by_cases hlt : k < n
    · have hkl : k < lines.length := by have := HN.out; omega
      have hltI : (k : Int) < (n : Int) := by omega
      obtain ⟨lb, lo, rfl, hlb, hcell⟩ := HL.out k hkl
      obtain ⟨⟨x, o, hC⟩, hO⟩ := hst.out
      have hcr : wr.cell? ⟨lb, lo + k, none⟩ = some (.string lines[k]) := by rw [hC.kp.b.bel.cell (p := ⟨lb, lo + k, none⟩) hlb]; exact hcell
      obtain ⟨hle, hpl⟩ := HPl.out k hkl wr x _ o kb c pb hC.kp hO hC.pl hC.po
      have HC := Lib.hid hC
      have HO := Lib.hid hO
      obtain ⟨ln, hln⟩ : ∃ ln, ln = lines[k] := ⟨_, rfl⟩
      have HLN := Lib.hid hln
      rw [← hln] at hcr hle hpl
      have HNx := Lib.hid (fun (wz W w' : World) x' o' (hc : RunC B sa w kb c pb txt p k (strCells1 (scRun txt M0 (lines.take k)).1) (.slice a1 k j1) x' (scLine txt (scRun txt M0 (lines.take k)).2 lines[k]).2 o' wz) (hb : Below wz.heap.size wz W) a2 k2 S (hS : S = (scLine txt (scRun txt M0 (lines.take k)).2 lines[k]).1) ho hg hn => RunSt.next (S := S) hkl HO.out HTK.out hS (hc.app (W := W) (w' := w') (a2 := a2) (k2 := k2) hb ho hg hn))
      rw [← hln] at HNx
      obtain ⟨M, hM⟩ : ∃ M, M = (scRun txt M0 (lines.take k)).2 := ⟨_, rfl⟩
      rw [← hM] at hle hpl HNx
      have HC' : Hid (RunC B sa w kb c pb txt p k (strCells1 (scRun txt M0 (lines.take k)).1) (.slice a1 k j1) x M o wr) := (show _ from by rw [hM]; exact HC.out)
      obtain ⟨cs, hcs⟩ : ∃ cs, cs = strCells1 (scRun txt M0 (lines.take k)).1 := ⟨_, rfl⟩
      rw [← hcs] at HNx HC'
      unfold DoPost at hpl
      have HLine := Lib.hid (show scLine txt M ln = (if (scPlay txt M ln).1 = 0 then (scPlay txt M ln).2.1 else scErr (scPlay txt M ln).1, (scPlay txt M ln).2.2) from rfl)
      obtain ⟨r, hr⟩ : ∃ r, r = scPlay txt M ln := ⟨_, rfl⟩
      rw [← hr] at hle hpl HLine
      obtain ⟨re, rs, rM⟩ := r
      have HPL := Lib.hid hpl
      have HLE : Hid (re ≤ 11) := hle
      have h63 : Hid (k + 1 ≤ maxLen) := (show k + 1 ≤ maxLen from by unfold maxLen; omega)
      have hby : Hid ((k + 1) * 16 ≤ 140737488355328) := (show (k + 1) * 16 ≤ 140737488355328 from by omega)
      clear hst hC hO hle hpl hln hM hcs hr HC hcell
      have HLay := Lib.hid (fun (wz : World) x' o' M' (h : RunC B sa w kb c pb txt p k cs (.slice a1 k j1) x' M' o' wz) (y : Obj) => And.intro (h.own.later ((Below.refl _ _).alloc (Nat.le_refl _) y)) (show p ≤ (wz.alloc y).heap.size by rw [World.size_alloc]; have := h.hi; omega))
      have hme := Tryz.methodError
      go_wp2_with fail
      refine HPL.out.mono ?_
      rintro e w6 ⟨rfl, x', o', z1, z2⟩
      have hc6 := HC'.out.play z1 z2
      clear z1 z2 HPL HC'
      cases re with
      | zero =>
        have HL1 := Lib.hid (show rs = (scLine txt M ln).1 from by rw [HLine.out]; rfl)
        have HC6 : Hid (RunC B sa w kb c pb txt p k cs (.slice a1 k j1) x' (scLine txt M ln).2 o' w6) := (show RunC B sa w kb c pb txt p k cs (.slice a1 k j1) x' (scLine txt M ln).2 o' w6 from by rw [HLine.out]; exact hc6)
        clear hc6
        rw [errv_zero]
        go_wp2_with (at_builtin; go_must (refine wpList_append_off rfl (.tmp 65) (.tmp 67) 22 rfl p 9 i0 _ 1 16 Tryz.underlying22 hi0 hz0 hz1 hz2 rfl (by decide) _ k _ rfl (HLay.out _ _ _ _ HC6.out _).1 ⟨World.heap w6 |>.size, 0, none⟩ 1 1 [.string rs] rfl rfl (new_cells _ [.string rs] _) (by intro u hu; simp at hu; subst hu; rfl) h63.out hby.out (HLay.out _ _ _ _ HC6.out _).2 ?_; intro a2 k2 w4 ho hg hn; have nx := Lib.hid (HNx.out w6 _ w4 _ _ HC6.out ((Below.refl _ _).alloc (Nat.le_refl _) _) a2 k2 rs HL1.out ho hg hn); clear ho hg hn))
        go_roundw
        case rel => exact ⟨k + 1, a2, k2, hlt, rfl, by go_num, nx⟩
        case measure => simp [intOf]; omega
      | succ q =>
        have HL1 := Lib.hid (show scErr (q + 1) = (scLine txt M ln).1 from by rw [HLine.out]; rfl)
        have HC6 : Hid (RunC B sa w kb c pb txt p k cs (.slice a1 k j1) x' (scLine txt M ln).2 o' w6) := (show RunC B sa w kb c pb txt p k cs (.slice a1 k j1) x' (scLine txt M ln).2 o' w6 from by rw [HLine.out]; exact hc6)
        have HBa := Lib.hid (bare_any B sa q w6 (HS.out.low hc6.kp.b.bel HS.out.top))
        have hq : q < 11 := by have := HLE.out; omega
        have HET := Lib.hid (fun (w7 : World) (b7 : Below w6.heap.size w6 w7) => errText_any (sa q) (scErr (q + 1)) w7 (by
          have h1 := HE.out q hq
          have b07 := hc6.kp.b.bel.trans (b7.mono hc6.kp.b.bel.size)
          rw [b07.cell (World.block_lt_of_cell? w (sa q) h1)]
          exact h1))
        obtain ⟨S, hS⟩ : ∃ S, S = scErr (q + 1) := ⟨_, rfl⟩
        rw [← hS] at HL1 HET
        rw [errv_succ] at HBa ⊢
        clear hc6 hS hq
        go_wp2_with fail
        refine HBa.out.mono ?_
        rintro e w7 ⟨rfl, b7⟩
        have HET7 := Lib.hid (HET.out w7 b7)
        have HC7 := Lib.hid (HC6.out.below b7)
        clear b7 HBa HET HC6
        go_wp2_with fail
        refine HET7.out.mono ?_
        rintro e w8 ⟨rfl, rfl⟩
        go_wp2_with (at_builtin; go_must (refine wpList_append_off rfl (.tmp 65) (.tmp 67) 22 rfl p 9 i0 _ 1 16 Tryz.underlying22 hi0 hz0 hz1 hz2 rfl (by decide) _ k _ rfl (HLay.out _ _ _ _ HC7.out _).1 ⟨World.heap w7 |>.size, 0, none⟩ 1 1 [.string S] rfl rfl (new_cells _ [.string S] _) (by intro u hu; simp at hu; subst hu; rfl) h63.out hby.out (HLay.out _ _ _ _ HC7.out _).2 ?_; intro a2 k2 w4 ho hg hn; have nx := Lib.hid (HNx.out w7 _ w4 _ _ HC7.out ((Below.refl _ _).alloc (Nat.le_refl _) _) a2 k2 S HL1.out ho hg hn); clear ho hg hn))
        go_roundw
        case rel => exact ⟨k + 1, a2, k2, hlt, rfl, by go_num, nx⟩
        case measure => simp [intOf]; omega
    · obtain rfl : k = n := by omega
      obtain ⟨⟨x, o, hC⟩, hO⟩ := hst.out
      have hltI : ¬ (k : Int) < (k : Int) := by omega
      have ho := hC.own
      have hkk := HN.out
      rw [show lines.take k = lines from List.take_of_length_le (by omega)] at ho
      have HB := Lib.hid hC.kp.b.bel
      have hoo : OwnAt wr w.heap.size 9 1 (.slice a1 k j1) k (strCells1 (scRun txt M0 lines).1) := by
        refine ⟨ho.1, ?_⟩
        rcases ho.2 with h | ⟨g, off, cp, cur, h1, h2, h3, h4⟩
        · exact .inl h
        · exact .inr ⟨g, off, cp, cur, h1, Nat.le_trans HPW.out h2, h3, h4⟩
      have HO := Lib.hid hoo
      clear hst hC hO ho hkk hoo
      go_wp2_with fail
      go_ret2
      exact ⟨a1, j1, rfl, HO.out, HB.out⟩
end Go.Proofs.YtikehilbmldadaaGreatDoor
namespace Go.Proofs.YtikehilbmldadaaGreatDoor
open Go.RowKit
set_option linter.unusedVariables false
theorem scRun_bad (B : Nat) (sa : Nat → Addr) (config : ByteArray) (n : Nat) (ao : Option Addr) (cap : Nat) (w : World) (hS : Sents B sa w) (hN : NumB B w) (hcs : config.size ≤ 4000) (h100 : n ≤ 100) {f : Nat × Int} {C : ConfV} (hr : readF config = (C, f)) (hf : f.1 ≠ 0) :
    Calls Tryz.prog 8 #[.string config, .slice ao n cap] w fun e w' => ∃ u, e = .returned (.tuple #[.slice none 0 0, u]) ∧ ErrIs sa w' u f ∧ Below w.heap.size w w' := by
  have HRd := Lib.hid (read_any B sa config w hS.c hN (by omega) (fun k hk h => by have := lines_count hk h; omega))
  rw [hr] at HRd
  unfold ReadPost at HRd
  have h1 : (n : Int) ≤ 100 := by omega
  have HF := Lib.hid hf
  clear hS hN hcs h100 hr hf
  go_enter Tryz.func8, Tryz.ntmps8
  go_wp2_with fail
  refine HRd.out.mono ?_
  rintro e w1 ⟨a9, n9, k9, u, X9, rfl, hu, -, -, b1⟩
  have hbb : Below w1.heap.size w1 (w1.alloc (.cells (confCs C (.slice a9 n9 k9)) 30)) := (Below.refl _ _).alloc (Nat.le_refl _) _
  have HU := Lib.hid (hu.below hbb)
  have HB := Lib.hid (b1.trans (hbb.mono b1.size))
  obtain ⟨t, p, rfl⟩ : ∃ t p, u = .iface t p := by
    rcases hu with ⟨_, h⟩ | ⟨_, _, fb, h, _⟩
    · obtain ⟨q, hq⟩ : ∃ q, f.1 = q + 1 := ⟨f.1 - 1, by have := HF.out; omega⟩
      rw [h, hq, errv_succ]
      exact ⟨_, _, rfl⟩
    · exact ⟨_, _, h⟩
  clear hu hbb b1 HRd
  unfold confCs at HU HB ⊢
  go_upto_region 4 with fail
  generalize w1.alloc _ = w2 at HU HB ⊢
  go_wp2_with fail
  go_ret2
  exact ⟨_, rfl, HU.out, HB.out⟩
end Go.Proofs.YtikehilbmldadaaGreatDoor
namespace Go.Proofs.YtikehilbmldadaaGreatDoor
open Go.RowKit
set_option linter.unusedVariables false
def watchC0 : ConfV := ⟨1, 2, 2, 0, []⟩
theorem watchC0_fine : confF watchC0 = (0, -1) := by decide
theorem watchC0_q : QOk watchC0 := ⟨by decide, by decide, fun E hE => (by cases hE), fun E hE => (by cases hE)⟩
theorem watchC0_text : (textB watchC0).length ≤ 8000 := quiet_text watchC0_fine (fun E hE => by cases hE)
theorem kp0_q {C : ConfV} (q : QOk C) : QAt C (kp0 C) 0 := qAt_new q rfl blank_recs
theorem watch_kicks : (qDog watchC0 2).kicks = 1 ∧ (qDog watchC0 2).now = 2 := by decide
end Go.Proofs.YtikehilbmldadaaGreatDoor
namespace Go.Proofs.YtikehilbmldadaaGreatDoor
open Go.RowKit
set_option linter.unusedVariables false
def hcfg : ByteArray := ⟨#[119, 105, 110, 100, 111, 119, 32, 49, 32, 50, 10, 99, 121, 99, 108, 101, 32, 50, 10, 100, 101, 108, 97, 121, 32, 48, 10]⟩
theorem d0 : Lib.itoa 0 = [48] := by rw [show (0 : Int) = ((0 : Nat) : Int) from rfl, Lib.itoa_nonneg, Lib.decDigits_one (by decide)]; rfl
theorem d1 : Lib.itoa 1 = [49] := by rw [show (1 : Int) = ((1 : Nat) : Int) from rfl, Lib.itoa_nonneg, Lib.decDigits_one (by decide)]; rfl
theorem d2 : Lib.itoa 2 = [50] := by rw [show (2 : Int) = ((2 : Nat) : Int) from rfl, Lib.itoa_nonneg, Lib.decDigits_one (by decide)]; rfl
theorem hello_text : textB watchC0 = hcfg.data.toList := by
  simp [textB, headB, headL, watchC0, lineB, upB, sepB, wordB, d0, d1, d2, List.range_succ, winB, cycB, delB, hcfg]
theorem hello_txt : txtOf watchC0 = hcfg := by unfold txtOf; rw [hello_text]
theorem hello_read : readF hcfg = (watchC0, (0, -1)) := by
  have := back_law watchC0_fine (Nat.not_lt.2 watchC0_text)
  rw [hello_text] at this
  exact this
def hl1 : ByteArray := ⟨#[116, 105, 99, 107, 32, 50]⟩
def hl2 : ByteArray := ⟨#[107, 105, 99, 107, 115]⟩
def hl3 : ByteArray := ⟨#[99, 97, 117, 115, 101]⟩
def hl4 : ByteArray := ⟨#[99, 111, 110, 102, 105, 103]⟩
theorem hask1 : scAsk hl1 = some (3, [2]) := scAsk_line (by decide) rfl (by decide) (by decide) (by simp [lineL, hl1, interL, d2, scWords])
theorem hask2 : scAsk hl2 = some (8, []) := scAsk_line (by decide) rfl (by decide) (by decide) (by simp [lineL, hl2, interL, scWords])
theorem hask3 : scAsk hl3 = some (11, []) := scAsk_line (by decide) rfl (by decide) (by decide) (by simp [lineL, hl3, interL, scWords])
theorem hask4 : scAsk hl4 = some (13, []) := scAsk_line (by decide) rfl (by decide) (by decide) (by simp [lineL, hl4, interL, scWords])
theorem hello_tks : scTks [hl1, hl2, hl3, hl4] = 2 := by
  simp [scTks, scTk_line hask1, scTk_line hask2, scTk_line hask3, scTk_line hask4]
theorem scLine_ask {txt : ByteArray} {M : KpM} {s : ByteArray} {i : Nat} {ns : List Nat} (h : scAsk s = some (i, ns)) : scLine txt M s = (if (scDo txt M i ns).1 = 0 then (scDo txt M i ns).2.1 else scErr (scDo txt M i ns).1, (scDo txt M i ns).2.2) := by
  unfold scLine scPlay
  rw [h]
def hello4 : ByteArray := ⟨#[119, 105, 110, 100, 111, 119, 32, 49, 32, 50, 59, 32, 99, 121, 99, 108, 101, 32, 50, 59, 32, 100, 101, 108, 97, 121, 32, 48]⟩
theorem hello_conf : scConf hcfg = hello4 := by
  unfold scConf hcfg hello4
  decide
theorem hello_run : (scRun (txtOf watchC0) (kp0 watchC0) [hl1, hl2, hl3, hl4]).1 = [okS, ⟨#[49]⟩, nothingS, hello4] := by
  rw [hello_txt]
  have hq0 := kp0_q watchC0_q
  obtain ⟨e1, hq2⟩ := hq0.ticks watchC0_q 2 (by decide)
  obtain ⟨M0, hM0⟩ : ∃ M0, M0 = kp0 watchC0 := ⟨_, rfl⟩
  rw [← hM0] at e1 hq2 ⊢
  have l1 : scLine hcfg M0 hl1 = (okS, (kpTicks M0 2).2) := by
    rw [scLine_ask hask1]
    show (if (kpTicks M0 2).1 = 0 then okS else scErr (kpTicks M0 2).1, (kpTicks M0 2).2) = _
    rw [if_pos e1]
  obtain ⟨M2, hM2⟩ : ∃ M2, M2 = (kpTicks M0 2).2 := ⟨_, rfl⟩
  rw [← hM2] at hq2 l1
  have l2 : scLine hcfg M2 hl2 = (⟨#[49]⟩, M2) := by
    rw [scLine_ask hask2]
    show (strV (Lib.itoa M2.D.kicks), M2) = _
    rw [hq2.D, show (0 + 2 : Nat) = 2 from rfl, watch_kicks.1, d1]; rfl
  have l3 : scLine hcfg M2 hl3 = (nothingS, M2) := by
    rw [scLine_ask hask3]
    show ((if M2.L = [] then nothingS else strV (scRec (lastZ M2.L))), M2) = _
    rw [if_pos hq2.b.L]
  have l4 : scLine hcfg M2 hl4 = (hello4, M2) := by
    rw [scLine_ask hask4]
    show (scConf hcfg, M2) = _
    rw [hello_conf]
  simp only [scRun, l1, l2, l3, l4]
end Go.Proofs.YtikehilbmldadaaGreatDoor
namespace Go.Proofs.YtikehilbmldadaaGreatDoor
open Go.RowKit
set_option linter.unusedVariables false
theorem sameTexts_eq (R R' : Nat → Prop) (l : List ByteArray) (va vb : Value) (w : World) (ha : SlOf R w va 1 (strCells1 l) l.length) (hb : SlOf R' w vb 1 (strCells1 l) l.length) (hn : l.length ≤ 100000) :
    Calls Tryz.prog 30 #[va, vb] w fun e w' => e = .returned (.bool true) ∧ ∃ q, w' = w.drewN q := by
  obtain ⟨ao, cap, rfl⟩ := ha.val
  obtain ⟨bo, cap2, rfl⟩ := hb.val
  have HA := Lib.hid ha
  have HB := Lib.hid hb
  clear ha hb
  go_enter Tryz.func30, Tryz.ntmps30
  go_wp2_with fail
  go_loopw [5] (fun s wr => ∃ i q : Nat, i ≤ l.length ∧ s = .int .i64 i ∧ wr = w.drewN q) (fun s _ => l.length - (intOf s).toNat)
  case atStart => exact ⟨0, 0, Nat.zero_le _, rfl, rfl⟩
  case round =>
    obtain ⟨i, q, hi, rfl, rfl⟩ := hrel
    by_cases hlt : i < l.length
    · obtain ⟨b1, o1, rfl, _, hb1, hc1⟩ := str_cells HA.out (by omega)
      obtain ⟨b2, o2, rfl, _, hb2, hc2⟩ := str_cells HB.out (by omega)
      have q1 := hc1 i hlt
      have q2 := hc2 i hlt
      clear hc1 hc2
      obtain ⟨x, hx⟩ : ∃ x, x = l[i] := ⟨_, rfl⟩
      rw [← hx] at q1 q2
      have heb : (x.toList == x.toList) = true := by simp
      have heb2 : (x.toList != x.toList) = false := by simp
      clear hx
      go_wp2_with fail
      go_quiet (fail)
      go_wp2_with fail
      go_roundw
      case rel => exact ⟨i + 1, _, by omega, by go_num, rfl⟩
      case measure => simp [intOf]; omega
    · go_wp2_with fail
      go_ret
      exact ⟨rfl, _, rfl⟩
end Go.Proofs.YtikehilbmldadaaGreatDoor
namespace Go.Proofs.YtikehilbmldadaaGreatDoor
open Go.RowKit
set_option linter.unusedVariables false
theorem hello_any (B : Nat) (sa : Nat → Addr) (w : World) (hS : Sents B sa w) (hE : ∀ k, k < 11 → w.cell? (sa k) = some (.string (scErr (k + 1)))) (hN : NumB B w) (hT : TabB w.heap.size w) :
    Calls Tryz.prog 7 #[] w fun e w' => e = .returned (.bool true) ∧ Below w.heap.size w w' := by
  have hba : Below w.heap.size w (w.alloc (.cells (strCells1 [hl1, hl2, hl3, hl4]).toArray 9)) := (Below.refl _ _).alloc (Nat.le_refl _) _
  have hsl : SlOf (· = w.heap.size) (w.alloc (.cells (strCells1 [hl1, hl2, hl3, hl4]).toArray 9)) (.slice (some ⟨w.heap.size, 0, none⟩) 4 4) 1 (strCells1 [hl1, hl2, hl3, hl4]) 4 := slOf_alloc w (strCells1 [hl1, hl2, hl3, hl4]) 9 1 4 rfl (by decide)
  have HRun := Lib.hid (scRun_good B sa hcfg [hl1, hl2, hl3, hl4] _ _ _ (hS.below hba) (fun k hk => by
    have h := hE k hk
    rw [hba.cell (World.block_lt_of_cell? w (sa k) h)]; exact h) (hN.below hba hS.top) (fun W hW => hT W (hba.trans (hW.mono hba.size))) hsl (fun b hb => by rw [hb]; simp) (by decide) (by decide) (by rw [hello_tks]; decide) (by decide) hello_read)
  rw [hello_run] at HRun
  have HRun2 : Hid (Calls Tryz.prog 8 #[.string hcfg, .slice (some ⟨w.heap.size, 0, none⟩) 4 4] (w.alloc (.cells (strCells1 [hl1, hl2, hl3, hl4]).toArray 9)) fun e w' => ∃ ao cap, e = .returned (.tuple #[.slice ao 4 cap, .nilIface]) ∧ (∀ o, SlOf (fun b => w.heap.size ≤ b) (w'.alloc o) (.slice ao 4 cap) 1 (strCells1 [okS, ⟨#[49]⟩, nothingS, hello4]) 4) ∧ Below w.heap.size w w') := HRun.out.mono (fun e w' hh => by
    obtain ⟨ao, cap, he, ho, b1⟩ := hh
    refine ⟨ao, cap, he, fun o => ?_, hba.trans (b1.mono hba.size)⟩
    have h2 : OwnAt (w'.alloc o) _ 9 1 (.slice ao 4 cap) 4 (strCells1 [okS, ⟨#[49]⟩, nothingS, hello4]) := ho.later ((Below.refl _ _).alloc (Nat.le_refl _) o)
    exact h2.slOf.mono (fun b hb => by have h1 := hb.1; simp at h1; omega))
  have HSm := Lib.hid (fun (w1 : World) ao cap (h : SlOf (fun b => w.heap.size ≤ b) (w1.alloc (.cells (strCells1 [okS, ⟨#[49]⟩, nothingS, hello4]).toArray 9)) (.slice ao 4 cap) 1 (strCells1 [okS, ⟨#[49]⟩, nothingS, hello4]) 4) => sameTexts_eq _ _ [okS, ⟨#[49]⟩, nothingS, hello4] (.slice ao 4 cap) (.slice (some ⟨w1.heap.size, 0, none⟩) 4 4) (w1.alloc (.cells (strCells1 [okS, ⟨#[49]⟩, nothingS, hello4]).toArray 9)) h (slOf_alloc w1 (strCells1 [okS, ⟨#[49]⟩, nothingS, hello4]) 9 1 4 rfl (by decide)) (by decide))
  clear hS hE hN hT hsl hba HRun
  go_enter Tryz.func7, Tryz.ntmps7
  go_wp2_with fail
  refine HRun2.out.mono ?_
  rintro e w1 ⟨ao, cap, rfl, hs, b1⟩
  have HSm1 := Lib.hid (HSm.out w1 ao cap (hs _))
  have HB := Lib.hid (b1.alloc b1.size (.cells (strCells1 [okS, ⟨#[49]⟩, nothingS, hello4]).toArray 9))
  clear hs b1 HSm HRun2
  go_wp2_with fail
  refine HSm1.out.mono ?_
  rintro e w2 ⟨rfl, q, rfl⟩
  go_wp2_with fail
  go_ret
  exact ⟨rfl, below_drewN' _ HB.out⟩
end Go.Proofs.YtikehilbmldadaaGreatDoor
namespace Go.Proofs.YtikehilbmldadaaGreatDoor
open Go.RowKit
set_option linter.unusedVariables false
def formF (i : Nat) : Nat := [9, 9, 9, 99999, 99999, 0, 9, 0, 0, 0, 0, 0, 0, 0].getD i 0
theorem word_eq {s : ByteArray} {i k : Nat} (h : scIdx s = some i) (hk : k < 14) : (s.toList == (scWords.getD k (ByteArray.empty, 0)).1.data.toList) = decide (k = i) := by
  have hw := scIdx_word h
  have hl := scIdx_lt h
  rw [ByteArray.toList_eq, hw]
  have hall : ∀ i k : Fin 14, ((scWords.getD i.1 (ByteArray.empty, 0)).1.data.toList == (scWords.getD k.1 (ByteArray.empty, 0)).1.data.toList) = decide (k.1 = i.1) := by decide
  exact hall ⟨i, hl⟩ ⟨k, hk⟩
theorem word_no {s : ByteArray} {k : Nat} (h : scIdx s = none) (hk : k < 14) : (s.toList == (scWords.getD k (ByteArray.empty, 0)).1.data.toList) = false := by
  unfold scIdx at h
  rw [List.findIdx?_eq_none_iff] at h
  have hl : k < scWords.length := hk
  have := h scWords[k] (List.getElem_mem hl)
  rw [ByteArray.toList_eq, List.getD_eq_getElem?_getD, List.getElem?_eq_getElem hl]
  show (s.data.toList == scWords[k].1.data.toList) = false
  rw [Bool.eq_false_iff] at this ⊢
  intro hh
  apply this
  rw [beq_iff_eq] at hh ⊢
  exact hh.symm
theorem scForm_0 (s : ByteArray) (w : World) (h : scIdx s = some 0) : Calls Tryz.prog 12 #[.string s] w fun e w' => e = .returned (.tuple #[.int .i64 1, .int .i64 9, .bool true]) ∧ w = w' := by
  have f0 : (s.toList == [98, 101, 103, 105, 110]) = true := by have := word_eq h (k := 0) (by decide); exact this
  have f1 : (s.toList == [115, 116, 111, 112]) = false := by have := word_eq h (k := 1) (by decide); exact this
  have f2 : (s.toList == [114, 101, 112, 111, 114, 116]) = false := by have := word_eq h (k := 2) (by decide); exact this
  have f3 : (s.toList == [116, 105, 99, 107]) = false := by have := word_eq h (k := 3) (by decide); exact this
  have f4 : (s.toList == [99, 117, 116]) = false := by have := word_eq h (k := 4) (by decide); exact this
  have f5 : (s.toList == [98, 111, 111, 116]) = false := by have := word_eq h (k := 5) (by decide); exact this
  have f6 : (s.toList == [115, 116, 97, 116, 117, 115]) = false := by have := word_eq h (k := 6) (by decide); exact this
  have f7 : (s.toList == [110, 111, 119]) = false := by have := word_eq h (k := 7) (by decide); exact this
  have f8 : (s.toList == [107, 105, 99, 107, 115]) = false := by have := word_eq h (k := 8) (by decide); exact this
  have f9 : (s.toList == [116, 111, 116, 97, 108]) = false := by have := word_eq h (k := 9) (by decide); exact this
  have f10 : (s.toList == [115, 116, 97, 116, 101]) = false := by have := word_eq h (k := 10) (by decide); exact this
  have f11 : (s.toList == [99, 97, 117, 115, 101]) = false := by have := word_eq h (k := 11) (by decide); exact this
  have f12 : (s.toList == [108, 111, 103]) = false := by have := word_eq h (k := 12) (by decide); exact this
  have f13 : (s.toList == [99, 111, 110, 102, 105, 103]) = false := by have := word_eq h (k := 13) (by decide); exact this
  clear h
  go_enter Tryz.func12, Tryz.ntmps12
  go_wp2_with fail
  go_ret3
  exact ⟨rfl, rfl⟩
theorem scForm_1 (s : ByteArray) (w : World) (h : scIdx s = some 1) : Calls Tryz.prog 12 #[.string s] w fun e w' => e = .returned (.tuple #[.int .i64 1, .int .i64 9, .bool true]) ∧ w = w' := by
  have f0 : (s.toList == [98, 101, 103, 105, 110]) = false := by have := word_eq h (k := 0) (by decide); exact this
  have f1 : (s.toList == [115, 116, 111, 112]) = true := by have := word_eq h (k := 1) (by decide); exact this
  have f2 : (s.toList == [114, 101, 112, 111, 114, 116]) = false := by have := word_eq h (k := 2) (by decide); exact this
  have f3 : (s.toList == [116, 105, 99, 107]) = false := by have := word_eq h (k := 3) (by decide); exact this
  have f4 : (s.toList == [99, 117, 116]) = false := by have := word_eq h (k := 4) (by decide); exact this
  have f5 : (s.toList == [98, 111, 111, 116]) = false := by have := word_eq h (k := 5) (by decide); exact this
  have f6 : (s.toList == [115, 116, 97, 116, 117, 115]) = false := by have := word_eq h (k := 6) (by decide); exact this
  have f7 : (s.toList == [110, 111, 119]) = false := by have := word_eq h (k := 7) (by decide); exact this
  have f8 : (s.toList == [107, 105, 99, 107, 115]) = false := by have := word_eq h (k := 8) (by decide); exact this
  have f9 : (s.toList == [116, 111, 116, 97, 108]) = false := by have := word_eq h (k := 9) (by decide); exact this
  have f10 : (s.toList == [115, 116, 97, 116, 101]) = false := by have := word_eq h (k := 10) (by decide); exact this
  have f11 : (s.toList == [99, 97, 117, 115, 101]) = false := by have := word_eq h (k := 11) (by decide); exact this
  have f12 : (s.toList == [108, 111, 103]) = false := by have := word_eq h (k := 12) (by decide); exact this
  have f13 : (s.toList == [99, 111, 110, 102, 105, 103]) = false := by have := word_eq h (k := 13) (by decide); exact this
  clear h
  go_enter Tryz.func12, Tryz.ntmps12
  go_wp2_with fail
  go_ret3
  exact ⟨rfl, rfl⟩
theorem scForm_2 (s : ByteArray) (w : World) (h : scIdx s = some 2) : Calls Tryz.prog 12 #[.string s] w fun e w' => e = .returned (.tuple #[.int .i64 2, .int .i64 9, .bool true]) ∧ w = w' := by
  have f0 : (s.toList == [98, 101, 103, 105, 110]) = false := by have := word_eq h (k := 0) (by decide); exact this
  have f1 : (s.toList == [115, 116, 111, 112]) = false := by have := word_eq h (k := 1) (by decide); exact this
  have f2 : (s.toList == [114, 101, 112, 111, 114, 116]) = true := by have := word_eq h (k := 2) (by decide); exact this
  have f3 : (s.toList == [116, 105, 99, 107]) = false := by have := word_eq h (k := 3) (by decide); exact this
  have f4 : (s.toList == [99, 117, 116]) = false := by have := word_eq h (k := 4) (by decide); exact this
  have f5 : (s.toList == [98, 111, 111, 116]) = false := by have := word_eq h (k := 5) (by decide); exact this
  have f6 : (s.toList == [115, 116, 97, 116, 117, 115]) = false := by have := word_eq h (k := 6) (by decide); exact this
  have f7 : (s.toList == [110, 111, 119]) = false := by have := word_eq h (k := 7) (by decide); exact this
  have f8 : (s.toList == [107, 105, 99, 107, 115]) = false := by have := word_eq h (k := 8) (by decide); exact this
  have f9 : (s.toList == [116, 111, 116, 97, 108]) = false := by have := word_eq h (k := 9) (by decide); exact this
  have f10 : (s.toList == [115, 116, 97, 116, 101]) = false := by have := word_eq h (k := 10) (by decide); exact this
  have f11 : (s.toList == [99, 97, 117, 115, 101]) = false := by have := word_eq h (k := 11) (by decide); exact this
  have f12 : (s.toList == [108, 111, 103]) = false := by have := word_eq h (k := 12) (by decide); exact this
  have f13 : (s.toList == [99, 111, 110, 102, 105, 103]) = false := by have := word_eq h (k := 13) (by decide); exact this
  clear h
  go_enter Tryz.func12, Tryz.ntmps12
  go_wp2_with fail
  go_ret3
  exact ⟨rfl, rfl⟩
theorem scForm_3 (s : ByteArray) (w : World) (h : scIdx s = some 3) : Calls Tryz.prog 12 #[.string s] w fun e w' => e = .returned (.tuple #[.int .i64 1, .int .i64 99999, .bool true]) ∧ w = w' := by
  have f0 : (s.toList == [98, 101, 103, 105, 110]) = false := by have := word_eq h (k := 0) (by decide); exact this
  have f1 : (s.toList == [115, 116, 111, 112]) = false := by have := word_eq h (k := 1) (by decide); exact this
  have f2 : (s.toList == [114, 101, 112, 111, 114, 116]) = false := by have := word_eq h (k := 2) (by decide); exact this
  have f3 : (s.toList == [116, 105, 99, 107]) = true := by have := word_eq h (k := 3) (by decide); exact this
  have f4 : (s.toList == [99, 117, 116]) = false := by have := word_eq h (k := 4) (by decide); exact this
  have f5 : (s.toList == [98, 111, 111, 116]) = false := by have := word_eq h (k := 5) (by decide); exact this
  have f6 : (s.toList == [115, 116, 97, 116, 117, 115]) = false := by have := word_eq h (k := 6) (by decide); exact this
  have f7 : (s.toList == [110, 111, 119]) = false := by have := word_eq h (k := 7) (by decide); exact this
  have f8 : (s.toList == [107, 105, 99, 107, 115]) = false := by have := word_eq h (k := 8) (by decide); exact this
  have f9 : (s.toList == [116, 111, 116, 97, 108]) = false := by have := word_eq h (k := 9) (by decide); exact this
  have f10 : (s.toList == [115, 116, 97, 116, 101]) = false := by have := word_eq h (k := 10) (by decide); exact this
  have f11 : (s.toList == [99, 97, 117, 115, 101]) = false := by have := word_eq h (k := 11) (by decide); exact this
  have f12 : (s.toList == [108, 111, 103]) = false := by have := word_eq h (k := 12) (by decide); exact this
  have f13 : (s.toList == [99, 111, 110, 102, 105, 103]) = false := by have := word_eq h (k := 13) (by decide); exact this
  clear h
  go_enter Tryz.func12, Tryz.ntmps12
  go_wp2_with fail
  go_ret3
  exact ⟨rfl, rfl⟩
theorem scForm_4 (s : ByteArray) (w : World) (h : scIdx s = some 4) : Calls Tryz.prog 12 #[.string s] w fun e w' => e = .returned (.tuple #[.int .i64 1, .int .i64 99999, .bool true]) ∧ w = w' := by
  have f0 : (s.toList == [98, 101, 103, 105, 110]) = false := by have := word_eq h (k := 0) (by decide); exact this
  have f1 : (s.toList == [115, 116, 111, 112]) = false := by have := word_eq h (k := 1) (by decide); exact this
  have f2 : (s.toList == [114, 101, 112, 111, 114, 116]) = false := by have := word_eq h (k := 2) (by decide); exact this
  have f3 : (s.toList == [116, 105, 99, 107]) = false := by have := word_eq h (k := 3) (by decide); exact this
  have f4 : (s.toList == [99, 117, 116]) = true := by have := word_eq h (k := 4) (by decide); exact this
  have f5 : (s.toList == [98, 111, 111, 116]) = false := by have := word_eq h (k := 5) (by decide); exact this
  have f6 : (s.toList == [115, 116, 97, 116, 117, 115]) = false := by have := word_eq h (k := 6) (by decide); exact this
  have f7 : (s.toList == [110, 111, 119]) = false := by have := word_eq h (k := 7) (by decide); exact this
  have f8 : (s.toList == [107, 105, 99, 107, 115]) = false := by have := word_eq h (k := 8) (by decide); exact this
  have f9 : (s.toList == [116, 111, 116, 97, 108]) = false := by have := word_eq h (k := 9) (by decide); exact this
  have f10 : (s.toList == [115, 116, 97, 116, 101]) = false := by have := word_eq h (k := 10) (by decide); exact this
  have f11 : (s.toList == [99, 97, 117, 115, 101]) = false := by have := word_eq h (k := 11) (by decide); exact this
  have f12 : (s.toList == [108, 111, 103]) = false := by have := word_eq h (k := 12) (by decide); exact this
  have f13 : (s.toList == [99, 111, 110, 102, 105, 103]) = false := by have := word_eq h (k := 13) (by decide); exact this
  clear h
  go_enter Tryz.func12, Tryz.ntmps12
  go_wp2_with fail
  go_ret3
  exact ⟨rfl, rfl⟩
theorem scForm_5 (s : ByteArray) (w : World) (h : scIdx s = some 5) : Calls Tryz.prog 12 #[.string s] w fun e w' => e = .returned (.tuple #[.int .i64 0, .int .i64 0, .bool true]) ∧ w = w' := by
  have f0 : (s.toList == [98, 101, 103, 105, 110]) = false := by have := word_eq h (k := 0) (by decide); exact this
  have f1 : (s.toList == [115, 116, 111, 112]) = false := by have := word_eq h (k := 1) (by decide); exact this
  have f2 : (s.toList == [114, 101, 112, 111, 114, 116]) = false := by have := word_eq h (k := 2) (by decide); exact this
  have f3 : (s.toList == [116, 105, 99, 107]) = false := by have := word_eq h (k := 3) (by decide); exact this
  have f4 : (s.toList == [99, 117, 116]) = false := by have := word_eq h (k := 4) (by decide); exact this
  have f5 : (s.toList == [98, 111, 111, 116]) = true := by have := word_eq h (k := 5) (by decide); exact this
  have f6 : (s.toList == [115, 116, 97, 116, 117, 115]) = false := by have := word_eq h (k := 6) (by decide); exact this
  have f7 : (s.toList == [110, 111, 119]) = false := by have := word_eq h (k := 7) (by decide); exact this
  have f8 : (s.toList == [107, 105, 99, 107, 115]) = false := by have := word_eq h (k := 8) (by decide); exact this
  have f9 : (s.toList == [116, 111, 116, 97, 108]) = false := by have := word_eq h (k := 9) (by decide); exact this
  have f10 : (s.toList == [115, 116, 97, 116, 101]) = false := by have := word_eq h (k := 10) (by decide); exact this
  have f11 : (s.toList == [99, 97, 117, 115, 101]) = false := by have := word_eq h (k := 11) (by decide); exact this
  have f12 : (s.toList == [108, 111, 103]) = false := by have := word_eq h (k := 12) (by decide); exact this
  have f13 : (s.toList == [99, 111, 110, 102, 105, 103]) = false := by have := word_eq h (k := 13) (by decide); exact this
  clear h
  go_enter Tryz.func12, Tryz.ntmps12
  go_wp2_with fail
  go_ret3
  exact ⟨rfl, rfl⟩
theorem scForm_6 (s : ByteArray) (w : World) (h : scIdx s = some 6) : Calls Tryz.prog 12 #[.string s] w fun e w' => e = .returned (.tuple #[.int .i64 1, .int .i64 9, .bool true]) ∧ w = w' := by
  have f0 : (s.toList == [98, 101, 103, 105, 110]) = false := by have := word_eq h (k := 0) (by decide); exact this
  have f1 : (s.toList == [115, 116, 111, 112]) = false := by have := word_eq h (k := 1) (by decide); exact this
  have f2 : (s.toList == [114, 101, 112, 111, 114, 116]) = false := by have := word_eq h (k := 2) (by decide); exact this
  have f3 : (s.toList == [116, 105, 99, 107]) = false := by have := word_eq h (k := 3) (by decide); exact this
  have f4 : (s.toList == [99, 117, 116]) = false := by have := word_eq h (k := 4) (by decide); exact this
  have f5 : (s.toList == [98, 111, 111, 116]) = false := by have := word_eq h (k := 5) (by decide); exact this
  have f6 : (s.toList == [115, 116, 97, 116, 117, 115]) = true := by have := word_eq h (k := 6) (by decide); exact this
  have f7 : (s.toList == [110, 111, 119]) = false := by have := word_eq h (k := 7) (by decide); exact this
  have f8 : (s.toList == [107, 105, 99, 107, 115]) = false := by have := word_eq h (k := 8) (by decide); exact this
  have f9 : (s.toList == [116, 111, 116, 97, 108]) = false := by have := word_eq h (k := 9) (by decide); exact this
  have f10 : (s.toList == [115, 116, 97, 116, 101]) = false := by have := word_eq h (k := 10) (by decide); exact this
  have f11 : (s.toList == [99, 97, 117, 115, 101]) = false := by have := word_eq h (k := 11) (by decide); exact this
  have f12 : (s.toList == [108, 111, 103]) = false := by have := word_eq h (k := 12) (by decide); exact this
  have f13 : (s.toList == [99, 111, 110, 102, 105, 103]) = false := by have := word_eq h (k := 13) (by decide); exact this
  clear h
  go_enter Tryz.func12, Tryz.ntmps12
  go_wp2_with fail
  go_ret3
  exact ⟨rfl, rfl⟩
theorem scForm_7 (s : ByteArray) (w : World) (h : scIdx s = some 7) : Calls Tryz.prog 12 #[.string s] w fun e w' => e = .returned (.tuple #[.int .i64 0, .int .i64 0, .bool true]) ∧ w = w' := by
  have f0 : (s.toList == [98, 101, 103, 105, 110]) = false := by have := word_eq h (k := 0) (by decide); exact this
  have f1 : (s.toList == [115, 116, 111, 112]) = false := by have := word_eq h (k := 1) (by decide); exact this
  have f2 : (s.toList == [114, 101, 112, 111, 114, 116]) = false := by have := word_eq h (k := 2) (by decide); exact this
  have f3 : (s.toList == [116, 105, 99, 107]) = false := by have := word_eq h (k := 3) (by decide); exact this
  have f4 : (s.toList == [99, 117, 116]) = false := by have := word_eq h (k := 4) (by decide); exact this
  have f5 : (s.toList == [98, 111, 111, 116]) = false := by have := word_eq h (k := 5) (by decide); exact this
  have f6 : (s.toList == [115, 116, 97, 116, 117, 115]) = false := by have := word_eq h (k := 6) (by decide); exact this
  have f7 : (s.toList == [110, 111, 119]) = true := by have := word_eq h (k := 7) (by decide); exact this
  have f8 : (s.toList == [107, 105, 99, 107, 115]) = false := by have := word_eq h (k := 8) (by decide); exact this
  have f9 : (s.toList == [116, 111, 116, 97, 108]) = false := by have := word_eq h (k := 9) (by decide); exact this
  have f10 : (s.toList == [115, 116, 97, 116, 101]) = false := by have := word_eq h (k := 10) (by decide); exact this
  have f11 : (s.toList == [99, 97, 117, 115, 101]) = false := by have := word_eq h (k := 11) (by decide); exact this
  have f12 : (s.toList == [108, 111, 103]) = false := by have := word_eq h (k := 12) (by decide); exact this
  have f13 : (s.toList == [99, 111, 110, 102, 105, 103]) = false := by have := word_eq h (k := 13) (by decide); exact this
  clear h
  go_enter Tryz.func12, Tryz.ntmps12
  go_wp2_with fail
  go_ret3
  exact ⟨rfl, rfl⟩
theorem scForm_8 (s : ByteArray) (w : World) (h : scIdx s = some 8) : Calls Tryz.prog 12 #[.string s] w fun e w' => e = .returned (.tuple #[.int .i64 0, .int .i64 0, .bool true]) ∧ w = w' := by
  have f0 : (s.toList == [98, 101, 103, 105, 110]) = false := by have := word_eq h (k := 0) (by decide); exact this
  have f1 : (s.toList == [115, 116, 111, 112]) = false := by have := word_eq h (k := 1) (by decide); exact this
  have f2 : (s.toList == [114, 101, 112, 111, 114, 116]) = false := by have := word_eq h (k := 2) (by decide); exact this
  have f3 : (s.toList == [116, 105, 99, 107]) = false := by have := word_eq h (k := 3) (by decide); exact this
  have f4 : (s.toList == [99, 117, 116]) = false := by have := word_eq h (k := 4) (by decide); exact this
  have f5 : (s.toList == [98, 111, 111, 116]) = false := by have := word_eq h (k := 5) (by decide); exact this
  have f6 : (s.toList == [115, 116, 97, 116, 117, 115]) = false := by have := word_eq h (k := 6) (by decide); exact this
  have f7 : (s.toList == [110, 111, 119]) = false := by have := word_eq h (k := 7) (by decide); exact this
  have f8 : (s.toList == [107, 105, 99, 107, 115]) = true := by have := word_eq h (k := 8) (by decide); exact this
  have f9 : (s.toList == [116, 111, 116, 97, 108]) = false := by have := word_eq h (k := 9) (by decide); exact this
  have f10 : (s.toList == [115, 116, 97, 116, 101]) = false := by have := word_eq h (k := 10) (by decide); exact this
  have f11 : (s.toList == [99, 97, 117, 115, 101]) = false := by have := word_eq h (k := 11) (by decide); exact this
  have f12 : (s.toList == [108, 111, 103]) = false := by have := word_eq h (k := 12) (by decide); exact this
  have f13 : (s.toList == [99, 111, 110, 102, 105, 103]) = false := by have := word_eq h (k := 13) (by decide); exact this
  clear h
  go_enter Tryz.func12, Tryz.ntmps12
  go_wp2_with fail
  go_ret3
  exact ⟨rfl, rfl⟩
theorem scForm_9 (s : ByteArray) (w : World) (h : scIdx s = some 9) : Calls Tryz.prog 12 #[.string s] w fun e w' => e = .returned (.tuple #[.int .i64 0, .int .i64 0, .bool true]) ∧ w = w' := by
  have f0 : (s.toList == [98, 101, 103, 105, 110]) = false := by have := word_eq h (k := 0) (by decide); exact this
  have f1 : (s.toList == [115, 116, 111, 112]) = false := by have := word_eq h (k := 1) (by decide); exact this
  have f2 : (s.toList == [114, 101, 112, 111, 114, 116]) = false := by have := word_eq h (k := 2) (by decide); exact this
  have f3 : (s.toList == [116, 105, 99, 107]) = false := by have := word_eq h (k := 3) (by decide); exact this
  have f4 : (s.toList == [99, 117, 116]) = false := by have := word_eq h (k := 4) (by decide); exact this
  have f5 : (s.toList == [98, 111, 111, 116]) = false := by have := word_eq h (k := 5) (by decide); exact this
  have f6 : (s.toList == [115, 116, 97, 116, 117, 115]) = false := by have := word_eq h (k := 6) (by decide); exact this
  have f7 : (s.toList == [110, 111, 119]) = false := by have := word_eq h (k := 7) (by decide); exact this
  have f8 : (s.toList == [107, 105, 99, 107, 115]) = false := by have := word_eq h (k := 8) (by decide); exact this
  have f9 : (s.toList == [116, 111, 116, 97, 108]) = true := by have := word_eq h (k := 9) (by decide); exact this
  have f10 : (s.toList == [115, 116, 97, 116, 101]) = false := by have := word_eq h (k := 10) (by decide); exact this
  have f11 : (s.toList == [99, 97, 117, 115, 101]) = false := by have := word_eq h (k := 11) (by decide); exact this
  have f12 : (s.toList == [108, 111, 103]) = false := by have := word_eq h (k := 12) (by decide); exact this
  have f13 : (s.toList == [99, 111, 110, 102, 105, 103]) = false := by have := word_eq h (k := 13) (by decide); exact this
  clear h
  go_enter Tryz.func12, Tryz.ntmps12
  go_wp2_with fail
  go_ret3
  exact ⟨rfl, rfl⟩
theorem scForm_10 (s : ByteArray) (w : World) (h : scIdx s = some 10) : Calls Tryz.prog 12 #[.string s] w fun e w' => e = .returned (.tuple #[.int .i64 0, .int .i64 0, .bool true]) ∧ w = w' := by
  have f0 : (s.toList == [98, 101, 103, 105, 110]) = false := by have := word_eq h (k := 0) (by decide); exact this
  have f1 : (s.toList == [115, 116, 111, 112]) = false := by have := word_eq h (k := 1) (by decide); exact this
  have f2 : (s.toList == [114, 101, 112, 111, 114, 116]) = false := by have := word_eq h (k := 2) (by decide); exact this
  have f3 : (s.toList == [116, 105, 99, 107]) = false := by have := word_eq h (k := 3) (by decide); exact this
  have f4 : (s.toList == [99, 117, 116]) = false := by have := word_eq h (k := 4) (by decide); exact this
  have f5 : (s.toList == [98, 111, 111, 116]) = false := by have := word_eq h (k := 5) (by decide); exact this
  have f6 : (s.toList == [115, 116, 97, 116, 117, 115]) = false := by have := word_eq h (k := 6) (by decide); exact this
  have f7 : (s.toList == [110, 111, 119]) = false := by have := word_eq h (k := 7) (by decide); exact this
  have f8 : (s.toList == [107, 105, 99, 107, 115]) = false := by have := word_eq h (k := 8) (by decide); exact this
  have f9 : (s.toList == [116, 111, 116, 97, 108]) = false := by have := word_eq h (k := 9) (by decide); exact this
  have f10 : (s.toList == [115, 116, 97, 116, 101]) = true := by have := word_eq h (k := 10) (by decide); exact this
  have f11 : (s.toList == [99, 97, 117, 115, 101]) = false := by have := word_eq h (k := 11) (by decide); exact this
  have f12 : (s.toList == [108, 111, 103]) = false := by have := word_eq h (k := 12) (by decide); exact this
  have f13 : (s.toList == [99, 111, 110, 102, 105, 103]) = false := by have := word_eq h (k := 13) (by decide); exact this
  clear h
  go_enter Tryz.func12, Tryz.ntmps12
  go_wp2_with fail
  go_ret3
  exact ⟨rfl, rfl⟩
theorem scForm_11 (s : ByteArray) (w : World) (h : scIdx s = some 11) : Calls Tryz.prog 12 #[.string s] w fun e w' => e = .returned (.tuple #[.int .i64 0, .int .i64 0, .bool true]) ∧ w = w' := by
  have f0 : (s.toList == [98, 101, 103, 105, 110]) = false := by have := word_eq h (k := 0) (by decide); exact this
  have f1 : (s.toList == [115, 116, 111, 112]) = false := by have := word_eq h (k := 1) (by decide); exact this
  have f2 : (s.toList == [114, 101, 112, 111, 114, 116]) = false := by have := word_eq h (k := 2) (by decide); exact this
  have f3 : (s.toList == [116, 105, 99, 107]) = false := by have := word_eq h (k := 3) (by decide); exact this
  have f4 : (s.toList == [99, 117, 116]) = false := by have := word_eq h (k := 4) (by decide); exact this
  have f5 : (s.toList == [98, 111, 111, 116]) = false := by have := word_eq h (k := 5) (by decide); exact this
  have f6 : (s.toList == [115, 116, 97, 116, 117, 115]) = false := by have := word_eq h (k := 6) (by decide); exact this
  have f7 : (s.toList == [110, 111, 119]) = false := by have := word_eq h (k := 7) (by decide); exact this
  have f8 : (s.toList == [107, 105, 99, 107, 115]) = false := by have := word_eq h (k := 8) (by decide); exact this
  have f9 : (s.toList == [116, 111, 116, 97, 108]) = false := by have := word_eq h (k := 9) (by decide); exact this
  have f10 : (s.toList == [115, 116, 97, 116, 101]) = false := by have := word_eq h (k := 10) (by decide); exact this
  have f11 : (s.toList == [99, 97, 117, 115, 101]) = true := by have := word_eq h (k := 11) (by decide); exact this
  have f12 : (s.toList == [108, 111, 103]) = false := by have := word_eq h (k := 12) (by decide); exact this
  have f13 : (s.toList == [99, 111, 110, 102, 105, 103]) = false := by have := word_eq h (k := 13) (by decide); exact this
  clear h
  go_enter Tryz.func12, Tryz.ntmps12
  go_wp2_with fail
  go_ret3
  exact ⟨rfl, rfl⟩
theorem scForm_12 (s : ByteArray) (w : World) (h : scIdx s = some 12) : Calls Tryz.prog 12 #[.string s] w fun e w' => e = .returned (.tuple #[.int .i64 0, .int .i64 0, .bool true]) ∧ w = w' := by
  have f0 : (s.toList == [98, 101, 103, 105, 110]) = false := by have := word_eq h (k := 0) (by decide); exact this
  have f1 : (s.toList == [115, 116, 111, 112]) = false := by have := word_eq h (k := 1) (by decide); exact this
  have f2 : (s.toList == [114, 101, 112, 111, 114, 116]) = false := by have := word_eq h (k := 2) (by decide); exact this
  have f3 : (s.toList == [116, 105, 99, 107]) = false := by have := word_eq h (k := 3) (by decide); exact this
  have f4 : (s.toList == [99, 117, 116]) = false := by have := word_eq h (k := 4) (by decide); exact this
  have f5 : (s.toList == [98, 111, 111, 116]) = false := by have := word_eq h (k := 5) (by decide); exact this
  have f6 : (s.toList == [115, 116, 97, 116, 117, 115]) = false := by have := word_eq h (k := 6) (by decide); exact this
  have f7 : (s.toList == [110, 111, 119]) = false := by have := word_eq h (k := 7) (by decide); exact this
  have f8 : (s.toList == [107, 105, 99, 107, 115]) = false := by have := word_eq h (k := 8) (by decide); exact this
  have f9 : (s.toList == [116, 111, 116, 97, 108]) = false := by have := word_eq h (k := 9) (by decide); exact this
  have f10 : (s.toList == [115, 116, 97, 116, 101]) = false := by have := word_eq h (k := 10) (by decide); exact this
  have f11 : (s.toList == [99, 97, 117, 115, 101]) = false := by have := word_eq h (k := 11) (by decide); exact this
  have f12 : (s.toList == [108, 111, 103]) = true := by have := word_eq h (k := 12) (by decide); exact this
  have f13 : (s.toList == [99, 111, 110, 102, 105, 103]) = false := by have := word_eq h (k := 13) (by decide); exact this
  clear h
  go_enter Tryz.func12, Tryz.ntmps12
  go_wp2_with fail
  go_ret3
  exact ⟨rfl, rfl⟩
theorem scForm_13 (s : ByteArray) (w : World) (h : scIdx s = some 13) : Calls Tryz.prog 12 #[.string s] w fun e w' => e = .returned (.tuple #[.int .i64 0, .int .i64 0, .bool true]) ∧ w = w' := by
  have f0 : (s.toList == [98, 101, 103, 105, 110]) = false := by have := word_eq h (k := 0) (by decide); exact this
  have f1 : (s.toList == [115, 116, 111, 112]) = false := by have := word_eq h (k := 1) (by decide); exact this
  have f2 : (s.toList == [114, 101, 112, 111, 114, 116]) = false := by have := word_eq h (k := 2) (by decide); exact this
  have f3 : (s.toList == [116, 105, 99, 107]) = false := by have := word_eq h (k := 3) (by decide); exact this
  have f4 : (s.toList == [99, 117, 116]) = false := by have := word_eq h (k := 4) (by decide); exact this
  have f5 : (s.toList == [98, 111, 111, 116]) = false := by have := word_eq h (k := 5) (by decide); exact this
  have f6 : (s.toList == [115, 116, 97, 116, 117, 115]) = false := by have := word_eq h (k := 6) (by decide); exact this
  have f7 : (s.toList == [110, 111, 119]) = false := by have := word_eq h (k := 7) (by decide); exact this
  have f8 : (s.toList == [107, 105, 99, 107, 115]) = false := by have := word_eq h (k := 8) (by decide); exact this
  have f9 : (s.toList == [116, 111, 116, 97, 108]) = false := by have := word_eq h (k := 9) (by decide); exact this
  have f10 : (s.toList == [115, 116, 97, 116, 101]) = false := by have := word_eq h (k := 10) (by decide); exact this
  have f11 : (s.toList == [99, 97, 117, 115, 101]) = false := by have := word_eq h (k := 11) (by decide); exact this
  have f12 : (s.toList == [108, 111, 103]) = false := by have := word_eq h (k := 12) (by decide); exact this
  have f13 : (s.toList == [99, 111, 110, 102, 105, 103]) = true := by have := word_eq h (k := 13) (by decide); exact this
  clear h
  go_enter Tryz.func12, Tryz.ntmps12
  go_wp2_with fail
  go_ret3
  exact ⟨rfl, rfl⟩
theorem scForm_none (s : ByteArray) (w : World) (h : scIdx s = none) : Calls Tryz.prog 12 #[.string s] w fun e w' => e = .returned (.tuple #[.int .i64 0, .int .i64 0, .bool false]) ∧ w = w' := by
  have f0 : (s.toList == [98, 101, 103, 105, 110]) = false := by have := word_no h (k := 0) (by decide); exact this
  have f1 : (s.toList == [115, 116, 111, 112]) = false := by have := word_no h (k := 1) (by decide); exact this
  have f2 : (s.toList == [114, 101, 112, 111, 114, 116]) = false := by have := word_no h (k := 2) (by decide); exact this
  have f3 : (s.toList == [116, 105, 99, 107]) = false := by have := word_no h (k := 3) (by decide); exact this
  have f4 : (s.toList == [99, 117, 116]) = false := by have := word_no h (k := 4) (by decide); exact this
  have f5 : (s.toList == [98, 111, 111, 116]) = false := by have := word_no h (k := 5) (by decide); exact this
  have f6 : (s.toList == [115, 116, 97, 116, 117, 115]) = false := by have := word_no h (k := 6) (by decide); exact this
  have f7 : (s.toList == [110, 111, 119]) = false := by have := word_no h (k := 7) (by decide); exact this
  have f8 : (s.toList == [107, 105, 99, 107, 115]) = false := by have := word_no h (k := 8) (by decide); exact this
  have f9 : (s.toList == [116, 111, 116, 97, 108]) = false := by have := word_no h (k := 9) (by decide); exact this
  have f10 : (s.toList == [115, 116, 97, 116, 101]) = false := by have := word_no h (k := 10) (by decide); exact this
  have f11 : (s.toList == [99, 97, 117, 115, 101]) = false := by have := word_no h (k := 11) (by decide); exact this
  have f12 : (s.toList == [108, 111, 103]) = false := by have := word_no h (k := 12) (by decide); exact this
  have f13 : (s.toList == [99, 111, 110, 102, 105, 103]) = false := by have := word_no h (k := 13) (by decide); exact this
  clear h
  go_enter Tryz.func12, Tryz.ntmps12
  go_wp2_with fail
  go_ret3
  exact ⟨rfl, rfl⟩
theorem scForm_some (s : ByteArray) (w : World) {i : Nat} (h : scIdx s = some i) : Calls Tryz.prog 12 #[.string s] w fun e w' => e = .returned (.tuple #[.int .i64 (scMany i), .int .i64 (formF i), .bool true]) ∧ w = w' := by
  have hl := scIdx_lt h
  match i, hl with
  | 0, _ => exact scForm_0 s w h
  | 1, _ => exact scForm_1 s w h
  | 2, _ => exact scForm_2 s w h
  | 3, _ => exact scForm_3 s w h
  | 4, _ => exact scForm_4 s w h
  | 5, _ => exact scForm_5 s w h
  | 6, _ => exact scForm_6 s w h
  | 7, _ => exact scForm_7 s w h
  | 8, _ => exact scForm_8 s w h
  | 9, _ => exact scForm_9 s w h
  | 10, _ => exact scForm_10 s w h
  | 11, _ => exact scForm_11 s w h
  | 12, _ => exact scForm_12 s w h
  | 13, _ => exact scForm_13 s w h
end Go.Proofs.YtikehilbmldadaaGreatDoor
