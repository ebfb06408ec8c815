import Derived.Test.YtikehilbmldadaaGreatDoorQ36
import Derived.Test.YtikehilbmldadaaGreatDoorQ22
set_option maxHeartbeats 3000000
set_option maxRecDepth 100000
namespace Go.Proofs.YtikehilbmldadaaGreatDoor
open Go.RowKit
set_option linter.unusedVariables false
theorem trim_cut (s : ByteArray) : (⟨(Lib.trimSuffix s.data.toList [10]).toArray⟩ : ByteArray) = textCut s := by
  have hsz : s.data.toList.length = s.size := by rw [Array.length_toList]; rfl
  refine bytes_ext ?_
  show (Lib.trimSuffix s.data.toList [10]).toArray.toList = _
  rw [List.toList_toArray]
  unfold Lib.trimSuffix textCut
  by_cases h : s.data.toList.getLast? = some 10
  · have hne : s.data.toList ≠ [] := by intro e; rw [e] at h; cases h
    have hg : s.data.toList.getLast hne = 10 := by rw [List.getLast?_eq_some_getLast hne] at h; exact Option.some.inj h
    have hd := List.dropLast_concat_getLast hne
    rw [hg] at hd
    have hs : Lib.hasSuffix s.data.toList [10] = true := by
      rw [← hd]
      exact List.isSuffixOf_iff_suffix.2 ⟨_, rfl⟩
    rw [if_pos hs, if_pos h, ByteArray.data_extract, Array.toList_extract, List.extract_eq_take_drop, List.drop_zero, Nat.sub_zero, hsz]
    rfl
  · have hs : ¬ Lib.hasSuffix s.data.toList [10] = true := by
      intro hh
      apply h
      unfold Lib.hasSuffix at hh
      obtain ⟨a, ha⟩ := List.isSuffixOf_iff_suffix.1 hh
      rw [← ha]
      simp
    rw [if_neg hs, if_neg h]
structure Sized (C : ConfV) (k : Nat) : Prop where
  n : C.ents.length ≤ k
  each : ∀ E ∈ C.ents, E.points.length ≤ k ∧ E.gaps.length ≤ k ∧ E.edges.length ≤ k ∧ E.first.length ≤ k ∧ E.last.length ≤ k
theorem Sized.mono {C : ConfV} {k m : Nat} (h : Sized C k) (hm : k ≤ m) : Sized C m :=
  ⟨Nat.le_trans h.n hm, fun E hE => by obtain ⟨a, b, c, d, e⟩ := h.each E hE; exact ⟨by omega, by omega, by omega, by omega, by omega⟩⟩
theorem takeE_sized {E : EntV} {k m : Nat} (name : ByteArray) (n : List Int) (h : E.points.length ≤ m ∧ E.gaps.length ≤ m ∧ E.edges.length ≤ m ∧ E.first.length ≤ m ∧ E.last.length ≤ m) :
    (takeE k name n E).points.length ≤ m + 1 ∧ (takeE k name n E).gaps.length ≤ m + 1 ∧ (takeE k name n E).edges.length ≤ m + 1 ∧ (takeE k name n E).first.length ≤ m + 1 ∧ (takeE k name n E).last.length ≤ m + 1 := by
  obtain ⟨a, b, c, d, e⟩ := h
  unfold takeE
  repeat' split
  all_goals
    refine ⟨?_, ?_, ?_, ?_, ?_⟩ <;> (try simp only [List.length_append, List.length_singleton]) <;> omega
theorem lastE_mem {L : List EntV} {E : EntV} (h : lastE L = E) : E ∈ L ∨ E = noE := by
  unfold lastE at h
  cases hl : L.getLast? with
  | none => rw [hl] at h; exact .inr h.symm
  | some F =>
    rw [hl] at h
    obtain rfl : F = E := h
    exact .inl (List.mem_of_getLast? hl)
theorem takeC_sized {C : ConfV} {m : Nat} (k : Nat) (hk : 4 ≤ k → C.ents ≠ []) (name : ByteArray) (n : List Int) (h : Sized C m) : Sized (takeC k name n C) (m + 1) := by
  have h1 := h.mono (Nat.le_succ m)
  unfold takeC
  split
  · exact ⟨h1.n, h1.each⟩
  split
  · exact ⟨h1.n, h1.each⟩
  split
  · exact ⟨h1.n, h1.each⟩
  split
  · refine ⟨by show (C.ents ++ [newE name (n.getD 0 0)]).length ≤ _; rw [List.length_append, List.length_singleton]; have := h.n; omega, fun E hE => ?_⟩
    rcases List.mem_append.1 hE with hE | hE
    · exact h1.each E hE
    · obtain rfl := List.mem_singleton.1 hE
      exact ⟨Nat.zero_le _, Nat.zero_le _, Nat.zero_le _, Nat.zero_le _, Nat.zero_le _⟩
  · next h0 h1' h2 h3 =>
    have hne := hk (by omega)
    have hl := List.length_pos_iff.2 hne
    refine ⟨by show (C.ents.dropLast ++ [_]).length ≤ _; rw [List.length_append, List.length_singleton, List.length_dropLast]; have := h.n; omega, fun E hE => ?_⟩
    rcases List.mem_append.1 hE with hE | hE
    · exact h1.each E (List.dropLast_subset _ hE)
    · obtain rfl := List.mem_singleton.1 hE
      refine takeE_sized name n ?_
      rcases lastE_mem (L := C.ents) rfl with hm | hm
      · exact h.each _ hm
      · rw [hm]; exact ⟨Nat.zero_le _, Nat.zero_le _, Nat.zero_le _, Nat.zero_le _, Nat.zero_le _⟩
theorem up_sized (ls : List ByteArray) : ∀ k, k ≤ ls.length → (∀ j, j < k → lineAt ls j = 0) → Sized (linesUp ls k).c k
  | 0, _, _ => ⟨Nat.le_refl _, fun E hE => by cases hE⟩
  | k + 1, hk, h => by
    have ih := up_sized ls k (by omega) (fun j hj => h j (by omega))
    have hI := (lines_txt ls k (by omega) (fun j hj => h j (by omega))).1
    have h0 := h k (by omega)
    unfold lineAt at h0
    show Sized (lineR (linesUp ls k) (ls.getD k ByteArray.empty)).2.c (k + 1)
    obtain ⟨hf, n, hr, e⟩ := lineR_ok (st := linesUp ls k) (s := ls.getD k ByteArray.empty) (st' := (lineR (linesUp ls k) (ls.getD k ByteArray.empty)).2) (Prod.ext h0 rfl)
    rw [e]
    refine takeC_sized _ (fun h4 => ?_) _ _ ih
    unfold lineFits at hf
    rw [Bool.and_eq_true, Bool.and_eq_true] at hf
    exact hI.ne (right_four h4 hf.1.2)
theorem Sized.few {C : ConfV} {k : Nat} {Y : List EntX} (h : Sized C k) (hk : k ≤ 100000) (he : C.ents = Y.map EntX.E) : Few Y := by
  refine ⟨by have := h.n; rw [he, List.length_map] at this; omega, fun y hy => ?_⟩
  obtain ⟨a, b, c, d, e⟩ := h.each y.E (by rw [he]; exact List.mem_map.2 ⟨y, hy, rfl⟩)
  exact ⟨by omega, by omega, by omega, by omega, by omega⟩
theorem Sized.small {C : ConfV} {k : Nat} {Y : List EntX} (h : Sized C k) (hk : k ≤ 1000) (he : C.ents = Y.map EntX.E) : Y.length ≤ 1000 ∧ ∀ y ∈ Y, EntSmall y.E := by
  refine ⟨by have := h.n; rw [he, List.length_map] at this; omega, fun y hy => ?_⟩
  obtain ⟨a, b, c, d, e⟩ := h.each y.E (by rw [he]; exact List.mem_map.2 ⟨y, hy, rfl⟩)
  exact ⟨by omega, by omega, by omega, by omega, by omega⟩
theorem RdAt.conf {base rb : Nat} {o : Nat → Option Nat} {C : ConfV} {st : Int} {v : Value} {Y : List EntX} {w : World} (h : RdAt base rb o C st v Y w) {k : Nat} (hs : Sized C k) (hk : k ≤ 1000) : ConfSl (fun b => base ≤ b ∧ b < w.heap.size) w C v Y := by
  obtain ⟨h1, h2⟩ := hs.small hk h.eq
  refine ⟨⟨?_, fun x hx => ?_⟩, h.eq, h2, h1⟩
  · obtain ⟨hl, ao, cap, hv, h1, h2, h3, h4⟩ := h.row.slOf
    refine ⟨hl, ao, cap, hv, h1, h2, h3, fun hp => ?_⟩
    obtain ⟨b, off, ha, hR, hb, hc⟩ := h4 hp
    exact ⟨b, off, ha, ⟨hR.1, hb⟩, hb, hc⟩
  · obtain ⟨i, hi, rfl⟩ := List.mem_iff_getElem.1 hx
    exact (h.own i hi).slOf
theorem rdAt_start (w : World) (rb : Nat) (hb : w.heap[rb]? = some (.cells (rdCs zeroC (.slice none 0 0) (-1)) 150)) : RdAt w.heap.size rb (fun _ => none) RdS.start.c RdS.start.stage (.slice none 0 0) [] w :=
  ⟨hb, lt_of_get hb, Nat.le_refl _, fun _ _ => rfl, fun _ _ => rfl, ⟨rfl, .inl ⟨rfl, rfl⟩⟩, fun b hb => (by cases hb), fun i hi => (by cases hi), rfl⟩
def ReadPost (sa : Nat → Addr) (B : Nat) (r : ConfV × (Nat × Int)) (w : World) (e : Ending) (w' : World) : Prop :=
  ∃ ao n cap u X, e = .returned (.tuple #[.agg (confCs r.1 (.slice ao n cap)), u]) ∧ ErrIs sa w' u r.2 ∧ (r.2.1 = 0 → ConfSl (fun b => B ≤ b ∧ b < w'.heap.size) w' r.1 (.slice ao n cap) X) ∧ (r.2.1 ≠ 0 → Value.slice ao n cap = .slice none 0 0) ∧ Below w.heap.size w w'
theorem five_keep (w : World) (q : Nat) (a b c d e : Value) : Keep (· = q) w (((((w.setCell ⟨q, 0, none⟩ a).setCell ⟨q, 1, none⟩ b).setCell ⟨q, 2, none⟩ c).setCell ⟨q, 3, none⟩ d).setCell ⟨q, 4, none⟩ e) :=
  ((((keep_set w q 0 a).setCell (p := ⟨q, 1, none⟩) (fun _ => rfl) b).setCell (p := ⟨q, 2, none⟩) (fun _ => rfl) c).setCell (p := ⟨q, 3, none⟩) (fun _ => rfl) d).setCell (p := ⟨q, 4, none⟩) (fun _ => rfl) e
theorem below_five {w w1 : World} (h : Below w.heap.size w w1) (a b c d e : Value) : Below w.heap.size w (((((w1.setCell ⟨w.heap.size, 0, none⟩ a).setCell ⟨w.heap.size, 1, none⟩ b).setCell ⟨w.heap.size, 2, none⟩ c).setCell ⟨w.heap.size, 3, none⟩ d).setCell ⟨w.heap.size, 4, none⟩ e) :=
  h.trans ((five_keep w1 w.heap.size a b c d e).below h.size (fun k hk => by rw [hk]; exact Nat.le_refl _))
theorem fault_five {w w7 : World} (h : Below w.heap.size w w7) (hq : w.heap.size < w7.heap.size) (i : Int) (ev a b c d e : Value) :
    FaultAt (((((((w7.alloc (.cells #[.int .i64 i, ev] 156)).setCell ⟨w.heap.size, 0, none⟩ a).setCell ⟨w.heap.size, 1, none⟩ b).setCell ⟨w.heap.size, 2, none⟩ c).setCell ⟨w.heap.size, 3, none⟩ d).setCell ⟨w.heap.size, 4, none⟩ e)) w7.heap.size i ev ∧
      Below w.heap.size w (((((((w7.alloc (.cells #[.int .i64 i, ev] 156)).setCell ⟨w.heap.size, 0, none⟩ a).setCell ⟨w.heap.size, 1, none⟩ b).setCell ⟨w.heap.size, 2, none⟩ c).setCell ⟨w.heap.size, 3, none⟩ d).setCell ⟨w.heap.size, 4, none⟩ e)) :=
  ⟨(five_keep _ w.heap.size a b c d e).get (get_alloc_new w7 _) (by show ¬ w7.heap.size = w.heap.size; omega), below_five (h.alloc h.size _) a b c d e⟩
theorem five_fault {w w7 : World} (h : Below w.heap.size w w7) (i : Int) (ev a b c d e : Value) :
    FaultAt ((((((w7.setCell ⟨w.heap.size, 0, none⟩ a).setCell ⟨w.heap.size, 1, none⟩ b).setCell ⟨w.heap.size, 2, none⟩ c).setCell ⟨w.heap.size, 3, none⟩ d).setCell ⟨w.heap.size, 4, none⟩ e).alloc (.cells #[.int .i64 i, ev] 156)) w7.heap.size i ev ∧
      Below w.heap.size w ((((((w7.setCell ⟨w.heap.size, 0, none⟩ a).setCell ⟨w.heap.size, 1, none⟩ b).setCell ⟨w.heap.size, 2, none⟩ c).setCell ⟨w.heap.size, 3, none⟩ d).setCell ⟨w.heap.size, 4, none⟩ e).alloc (.cells #[.int .i64 i, ev] 156)) := by
  have hb := below_five h a b c d e
  refine ⟨?_, hb.alloc hb.size _⟩
  have := get_alloc_new (((((w7.setCell ⟨w.heap.size, 0, none⟩ a).setCell ⟨w.heap.size, 1, none⟩ b).setCell ⟨w.heap.size, 2, none⟩ c).setCell ⟨w.heap.size, 3, none⟩ d).setCell ⟨w.heap.size, 4, none⟩ e) (.cells #[.int .i64 i, ev] 156)
  simpa [FaultAt] using this
theorem err_fault {sa : Nat → Addr} {w : World} {fb : Nat} {i : Int} {c : Nat} (hF : FaultAt w fb i (errv sa c)) (hi : 0 ≤ i) (hc : 0 < c) : ErrIs sa w (.iface 154 (.pointer (some ⟨fb, 0, none⟩))) (c, i) := .inr ⟨hi, hc, fb, rfl, hF⟩
theorem read_bad {sa : Nat → Addr} {B : Nat} {w w' : World} {u : Value} {c : Nat} {i : Int} (hE : ErrIs sa w' u (c, i)) (hc : c ≠ 0) (hb : Below w.heap.size w w') :
    ReadPost sa B (zeroC, (c, i)) w (.returned (.tuple #[.agg #[.int .i64 0, .int .i64 0, .int .i64 0, .int .i64 0, .slice none 0 0], u])) w' :=
  ⟨none, 0, 0, u, [], rfl, hE, fun h => absurd h hc, fun _ => rfl, hb⟩
theorem ConfSl.mono {R S : Nat → Prop} {w : World} {C : ConfV} {v : Value} {X : List EntX} (h : ConfSl R w C v X) (hd : ∀ b, R b → S b) : ConfSl S w C v X :=
  ⟨⟨h.sl.row.mono hd, fun x hx => by have := h.sl.each x hx; exact ⟨this.p.mono hd, this.g.mono hd, this.e.mono hd, this.f.mono hd, this.l.mono hd⟩⟩, h.eq, h.small, h.len⟩
theorem lineR_code (st : RdS) (s : ByteArray) : (lineR st s).1 = 0 ∨ (lineR st s).1 = 1 ∨ (lineR st s).1 = 5 := by
  unfold lineR
  split
  · split
    · exact .inr (.inl rfl)
    · split
      · exact .inr (.inr rfl)
      · exact .inl rfl
  · exact .inr (.inl rfl)
theorem textCut_size (s : ByteArray) : (textCut s).size ≤ s.size := by
  rw [← trim_cut]
  have h := Lib.trimSuffix_le s.data.toList [10]
  rw [Array.length_toList] at h
  show (Lib.trimSuffix s.data.toList [10]).toArray.size ≤ s.data.size
  rw [List.size_toArray]
  exact h
theorem textLines_sizes (s : ByteArray) : (textLines s).length ≤ s.size + 1 ∧ ∀ t ∈ textLines s, t.size ≤ s.size := by
  unfold textLines
  split
  · exact ⟨Nat.zero_le _, fun t ht => (by cases ht)⟩
  · obtain ⟨h1, h2⟩ := pieces_sizes 10 (textCut s)
    have := textCut_size s
    exact ⟨by omega, fun t ht => Nat.le_trans (h2 t ht) this⟩
theorem read_any (B : Nat) (sa : Nat → Addr) (s : ByteArray) (w : World) (hS : SentsC B sa w) (hN : NumB B w) (hs : s.size ≤ 100000) (hK : ∀ k, k ≤ (textLines s).length → (∀ j, j < k → lineAt (textLines s) j = 0) → k ≤ 1000) :
    Calls Tryz.prog 36 #[.string s] w (ReadPost sa w.heap.size (readF s) w) := by
  have HS := Lib.hid hS
  have HN := Lib.hid hN
  have HK := Lib.hid hK
  have hba : Below w.heap.size w (w.alloc (.cells (confCs zeroC (.slice none 0 0)) 30)) := (Below.refl _ _).alloc (Nat.le_refl _) _
  have hxa := get_alloc_new w (.cells (confCs zeroC (.slice none 0 0)) 30)
  unfold confCs zeroC at hxa hba
  clear hS hN hK
  by_cases h8 : (8000 : Int) < (s.size : Int)
  · have HR : Hid (readF s = (zeroC, (2, -1))) := (show readF s = (zeroC, (2, -1)) from by unfold readF; rw [if_pos (by omega)])
    go_enter Tryz.func36, Tryz.ntmps36
    go_upto_region 1 with fail
    generalize w.alloc _ = w1 at hxa hba ⊢
    have e2 := (HS.out.on hba).all.2.1
    have HBA := Lib.hid hba
    obtain ⟨c0, c1, c2, c3, c4⟩ := conf_cells (C := zeroC) hxa
    have cf : ∀ o, w1.frozen? ⟨w.heap.size, o, none⟩ = false := fun o => by simp [World.frozen?, hxa]
    have hg : 0 < B := HS.out.nb 1 (by decide)
    have hB := HS.out.top
    have hg1 : ¬ 0 = w.heap.size := by omega
    have hg2 : ¬ w.heap.size = 0 := by omega
    clear hba hg hB
    go_wp2_with fail
    go_region
    all_goals
      go_wp2_with fail
      refine bodyPost_ret (v := .tuple #[.agg #[.int .i64 0, .int .i64 0, .int .i64 0, .int .i64 0, .slice none 0 0], .iface 372 (.pointer (some (sa 1)))]) (by simp [c0, c1, c2, c3, c4, results, Tryz.results36, go_sem, World.cell?_setCell_same, World.cell?_setCell_other]) rfl ?_
      unfold ReadPost
      rw [HR.out]
      exact ⟨none, 0, 0, errv sa 2, [], rfl, .inl ⟨rfl, rfl⟩, fun h => absurd h (by decide), fun _ => rfl, by first | exact below_five HBA.out _ _ _ _ _ | exact (below_five HBA.out _ _ _ _ _).drew⟩
  · go_enter Tryz.func36, Tryz.ntmps36
    go_upto_region 1 with fail
    generalize w.alloc _ = w1 at hxa hba ⊢
    have HBA := Lib.hid hba
    have HXA := Lib.hid hxa
    clear hba hxa
    go_upto_region 4 with fail
    have hbr : Below w1.heap.size w1 (w1.alloc (.cells (rdCs zeroC (.slice none 0 0) (-1)) 150)) := (Below.refl _ _).alloc (Nat.le_refl _) _
    have hxr := get_alloc_new w1 (.cells (rdCs zeroC (.slice none 0 0) (-1)) 150)
    unfold rdCs zeroC at hxr hbr
    generalize w1.alloc _ = w2 at hxr hbr ⊢
    obtain ⟨rb, hrb⟩ : ∃ rb, rb = w1.heap.size := ⟨_, rfl⟩
    have hqr : w.heap.size < rb := by rw [hrb]; exact lt_of_get HXA.out
    have HB2 := Lib.hid (HBA.out.trans (hbr.mono HBA.out.size))
    have HX2 := Lib.hid (below_get hbr HXA.out (lt_of_get HXA.out))
    rw [← hrb] at hxr ⊢
    have HR2 := Lib.hid hxr
    obtain ⟨ls, hls⟩ : ∃ ls, ls = textLines s := ⟨_, rfl⟩
    rw [← hls] at HK
    have HLS := Lib.hid hls
    obtain ⟨L, hL⟩ : ∃ L, L = ls.length := ⟨_, rfl⟩
    have HL := Lib.hid hL
    have hLb : (L : Int) ≤ 100001 := by
      rw [hL, hls]
      have := textLines_sizes s
      omega
    clear hbr hrb hxr HBA HXA hls hL
    obtain ⟨zb, hzb⟩ : ∃ zb, s.toList.isEmpty = zb := ⟨_, rfl⟩
    have HZB := Lib.hid hzb
    go_upto_if 18 with fail
    go_cut [5] (fun s5 wx => ∃ la, s5 = .slice la L L ∧ Hid (∀ (i : Nat) x, ls[i]? = some x → ∃ lb, la = some ⟨lb, 0, none⟩ ∧ lb < wx.heap.size ∧ lb ≠ rb ∧ lb ≠ w.heap.size ∧ wx.cell? ⟨lb, i, none⟩ = some (.string x)) ∧ Hid (Below w2.heap.size w2 wx))
    case first =>
      cases zb
      rotate_left
      · have h0 : s.size = 0 := Decidable.byContradiction (fun h => by rw [empty_no h] at hzb; cases hzb)
        have HE : Hid (ls = []) := (show ls = [] from by rw [HLS.out]; unfold textLines; rw [if_pos h0])
        have HL0 : Hid (L = 0) := (show L = 0 from by rw [HL.out, HE.out]; rfl)
        clear h0
        go_wp2_with fail
        go_meet
        refine ⟨none, by rw [HL0.out], (show _ from fun i x hx => by rw [HE.out] at hx; simp at hx), Below.refl _ _⟩
      · have h0 : ¬ s.size = 0 := fun h => by rw [empty_yes h] at hzb; cases hzb
        have hpl : ls = piecesB 10 (textCut s) := by rw [HLS.out]; unfold textLines; rw [if_neg h0]
        have hcs := textCut_size s
        have HT := Lib.hid (Tryz.strings_TrimSuffix s ⟨#[10]⟩ w2 (by omega))
        rw [show (⟨(Lib.trimSuffix s.data.toList (⟨#[10]⟩ : ByteArray).data.toList).toArray⟩ : ByteArray) = textCut s from trim_cut s] at HT
        have HSp := Lib.hid (split_one (textCut s) 10 w2 (by omega))
        rw [← hpl, ← HL.out] at HSp
        have HLP := Lib.hid hpl
        clear h0 hpl hcs
        go_wp2_with fail
        refine HT.out.mono ?_
        rintro e w3 ⟨rfl, rfl⟩
        go_wp2_with fail
        refine HSp.out.mono ?_
        rintro e w4 ⟨rfl, rfl⟩
        go_wp2_with fail
        go_meet
        refine ⟨some ⟨w3.heap.size, 0, none⟩, rfl, (show _ from fun i x hx => ⟨w3.heap.size, rfl, by simp, by have := lt_of_get HR2.out; omega, by have := lt_of_get HR2.out; omega, ?_⟩), (Below.refl _ _).alloc (Nat.le_refl _) _⟩
        rw [cell_of_row _ _ i _ _ _ (get_alloc_new w3 (.cells (ls.map Value.string).toArray 9))]
        simp [hx]
    case rest =>
    obtain ⟨la, rfl, hcl, hbc⟩ := hcut
    have HR0 : Hid (wc.heap[rb]? = some (.cells (rdCs zeroC (.slice none 0 0) (-1)) 150)) := (show wc.heap[rb]? = some (.cells (rdCs zeroC (.slice none 0 0) (-1)) 150) from below_get hbc.out HR2.out (lt_of_get HR2.out))
    have HX0 := Lib.hid (below_get hbc.out HX2.out (lt_of_get HX2.out))
    have HB0 := Lib.hid (HB2.out.trans (hbc.out.mono HB2.out.size))
    have HST := Lib.hid (rdAt_start wc rb HR0.out)
    have HCL := Lib.hid hcl.out
    clear hbc HB2 HX2 HR2 HR0 hcl hzb
    go_wp2_with fail
    go_loopw [24] (fun s24 wr => ∃ (i : Nat) (o : Nat → Option Nat) (v : Value) (Y : List EntX), i ≤ L ∧ s24 = .int .i64 i ∧ Hid (∀ j, j < i → lineAt ls j = 0) ∧ Hid (RdAt wc.heap.size rb o (linesUp ls i).c (linesUp ls i).stage v Y wr) ∧ Hid (Keep (fun b => b = rb ∨ wc.heap.size ≤ b) wc wr)) (fun s24 _ => L - (intOf s24).toNat)
    case atStart => exact ⟨0, _, _, _, Nat.zero_le _, rfl, (show _ from fun j hj => by omega), HST, Keep.refl _ _⟩
    case round =>
      obtain ⟨i, o, v, Y, hi, rfl, hgd, hrd, hkp⟩ := hrel
      have hqb := lt_of_get HX0.out
      have HXr := Lib.hid (hkp.out.get HX0.out (fun hs => by rcases hs with hs | hs <;> omega))
      have HBr : Hid (Below w.heap.size w wr) := (show Below w.heap.size w wr from HB0.out.trans (hkp.out.below HB0.out.size (fun b hb => by have := HB0.out.size; rcases hb with hb | hb <;> omega)))
      obtain ⟨c0, c1, c2, c3, c4⟩ := conf_cells (C := zeroC) HXr.out
      have cf : ∀ o, wr.frozen? ⟨w.heap.size, o, none⟩ = false := fun o => by have := HXr.out; simp [World.frozen?, this]
      by_cases hlt : i < L
      · have hil : i < ls.length := by rw [← HL.out]; exact hlt
        obtain ⟨lb, rfl, hlb, hlr, hlq, hlc⟩ := HCL.out i ls[i] (List.getElem?_eq_getElem hil)
        have ht : wr.cell? ⟨lb, i, none⟩ = some (.string (ls.getD i ByteArray.empty)) := by
          rw [hkp.out.cell (p := ⟨lb, i, none⟩) hlb (fun hs => by rcases hs with hs | hs; exact hlr hs; have hs : wc.heap.size ≤ lb := hs; omega), List.getD_eq_getElem?_getD, List.getElem?_eq_getElem hil]
          exact hlc
        have hsz : (ls.getD i ByteArray.empty).size ≤ 100000 := by
          rw [List.getD_eq_getElem?_getD, List.getElem?_eq_getElem hil]
          have := (textLines_sizes s).2 ls[i] (by rw [← HLS.out]; exact List.getElem_mem hil)
          show ls[i].size ≤ 100000
          omega
        have hBrb : B ≤ rb := by have := HS.out.top; omega
        have HLn := Lib.hid (line_any B sa wc.heap.size rb o (linesUp ls i) v Y (ls.getD i ByteArray.empty) wr (HS.out.on HBr.out) (HN.out.below HBr.out HS.out.top) hBrb hrd.out (lines_txt ls i (by omega) hgd.out).1 ((up_sized ls i (by omega) hgd.out).few (by omega) hrd.out.eq) hsz)
        obtain ⟨tl, htl⟩ : ∃ tl, tl = ls.getD i ByteArray.empty := ⟨_, rfl⟩
        rw [← htl] at ht HLn
        have HTL := Lib.hid htl
        have HIL := Lib.hid hil
        unfold Lined at HLn
        clear hsz hlb hlr hlq hlc htl hil hBrb
        rcases lineR_code (linesUp ls i) tl with hc | hc | hc
        · rw [hc] at HLn
          have e0 : errv sa 0 = .nilIface := rfl
          rw [e0] at HLn
          have HC := Lib.hid hc
          clear hc
          go_wp2_with fail
          refine HLn.out.mono ?_
          rintro e w7 ⟨rfl, hr7, hk7⟩
          have HR7 := Lib.hid (hr7 trivial)
          have HK7 := Lib.hid hk7
          clear hr7 hk7 c0 c1 c2 c3 c4 cf ht
          go_wp2_with fail
          go_roundw
          case rel =>
            obtain ⟨o', v', Y', h'⟩ := HR7.out
            refine ⟨i + 1, o', v', Y', by omega, by go_num, (show _ from fun j hj => ?_), (show RdAt wc.heap.size rb o' (linesUp ls (i + 1)).c (linesUp ls (i + 1)).stage v' Y' w7 from ?_), (show Keep (fun b => b = rb ∨ wc.heap.size ≤ b) wc w7 from hkp.out.step HK7.out (fun b hb _ => hb))⟩
            · by_cases hji : j = i
              · subst hji
                unfold lineAt
                rw [← HTL.out]
                exact HC.out
              · exact hgd.out j (by omega)
            · show RdAt wc.heap.size rb o' (lineR (linesUp ls i) (ls.getD i ByteArray.empty)).2.c (lineR (linesUp ls i) (ls.getD i ByteArray.empty)).2.stage v' Y' w7
              rw [← HTL.out]
              exact h'
          case measure => simp [intOf]; omega
        · rw [hc] at HLn
          have HRF : Hid (readF s = (zeroC, (1, (i : Int)))) := (show readF s = (zeroC, (1, (i : Int))) from by
            have hh : lineAt ls i = 1 := by unfold lineAt; rw [← HTL.out]; exact hc
            have hf := linesF_hit (L := ls) (k := i) HIL.out (by rw [hh]; decide) hgd.out
            rw [hh] at hf
            unfold readF
            rw [if_neg (by omega), ← HLS.out, hf, if_pos (by simp)])
          have e0 : errv sa 1 = .iface 372 (.pointer (some (sa 0))) := rfl
          rw [e0] at HLn
          clear hc
          go_wp2_with fail
          refine HLn.out.mono ?_
          rintro e w7 ⟨rfl, -, hk7⟩
          have HX7 := Lib.hid (hk7.get HXr.out (fun hs => by rcases hs with hs | hs <;> omega))
          have HB7 : Hid (Below w.heap.size w w7) := (show Below w.heap.size w w7 from HBr.out.trans (hk7.below HBr.out.size (fun b hb => by have := HB0.out.size; rcases hb with hb | hb <;> omega)))
          obtain ⟨d0, d1, d2, d3, d4⟩ := conf_cells (C := zeroC) HX7.out
          have df : ∀ o, w7.frozen? ⟨w.heap.size, o, none⟩ = false := fun o => by have := HX7.out; simp [World.frozen?, this]
          have hq7 : w.heap.size < w7.heap.size := lt_of_get HX7.out
          have HF := Lib.hid (five_fault HB7.out (i : Int) (errv sa 1) (.int .i64 0) (.int .i64 0) (.int .i64 0) (.int .i64 0) (.slice none 0 0))
          have hne7 : ¬ w.heap.size = w7.heap.size := by omega
          have hne8 : ¬ w7.heap.size = w.heap.size := by omega
          clear hk7 c0 c1 c2 c3 c4 cf ht
          go_wp2_with fail
          refine bodyPost_ret (v := .tuple #[.agg #[.int .i64 0, .int .i64 0, .int .i64 0, .int .i64 0, .slice none 0 0], .iface 154 (.pointer (some ⟨w7.heap.size, 0, none⟩))]) (by simp [d0, d1, d2, d3, d4, hq7, results, Tryz.results36, go_sem, World.cell?_setCell_same, World.cell?_setCell_other]) rfl ?_
          rw [HRF.out]
          exact read_bad (err_fault HF.out.1 (by omega) (by decide)) (by decide) HF.out.2
        · rw [hc] at HLn
          have HRF : Hid (readF s = (zeroC, (5, (i : Int)))) := (show readF s = (zeroC, (5, (i : Int))) from by
            have hh : lineAt ls i = 5 := by unfold lineAt; rw [← HTL.out]; exact hc
            have hf := linesF_hit (L := ls) (k := i) HIL.out (by rw [hh]; decide) hgd.out
            rw [hh] at hf
            unfold readF
            rw [if_neg (by omega), ← HLS.out, hf, if_pos (by simp)])
          have e0 : errv sa 5 = .iface 372 (.pointer (some (sa 4))) := rfl
          rw [e0] at HLn
          clear hc
          go_wp2_with fail
          refine HLn.out.mono ?_
          rintro e w7 ⟨rfl, -, hk7⟩
          have HX7 := Lib.hid (hk7.get HXr.out (fun hs => by rcases hs with hs | hs <;> omega))
          have HB7 : Hid (Below w.heap.size w w7) := (show Below w.heap.size w w7 from HBr.out.trans (hk7.below HBr.out.size (fun b hb => by have := HB0.out.size; rcases hb with hb | hb <;> omega)))
          obtain ⟨d0, d1, d2, d3, d4⟩ := conf_cells (C := zeroC) HX7.out
          have df : ∀ o, w7.frozen? ⟨w.heap.size, o, none⟩ = false := fun o => by have := HX7.out; simp [World.frozen?, this]
          have hq7 : w.heap.size < w7.heap.size := lt_of_get HX7.out
          have HF := Lib.hid (five_fault HB7.out (i : Int) (errv sa 5) (.int .i64 0) (.int .i64 0) (.int .i64 0) (.int .i64 0) (.slice none 0 0))
          have hne7 : ¬ w.heap.size = w7.heap.size := by omega
          have hne8 : ¬ w7.heap.size = w.heap.size := by omega
          clear hk7 c0 c1 c2 c3 c4 cf ht
          go_wp2_with fail
          refine bodyPost_ret (v := .tuple #[.agg #[.int .i64 0, .int .i64 0, .int .i64 0, .int .i64 0, .slice none 0 0], .iface 154 (.pointer (some ⟨w7.heap.size, 0, none⟩))]) (by simp [d0, d1, d2, d3, d4, hq7, results, Tryz.results36, go_sem, World.cell?_setCell_same, World.cell?_setCell_other]) rfl ?_
          rw [HRF.out]
          exact read_bad (err_fault HF.out.1 (by omega) (by decide)) (by decide) HF.out.2
      · obtain rfl : i = L := by omega
        have hL1 : i ≤ 1000 := HK.out i (by rw [HL.out]; exact Nat.le_refl _) hgd.out
        have HMS := Lib.hid (linesF_miss (L := ls) (fun j hj => hgd.out j (by rw [HL.out]; exact hj)))
        obtain ⟨st, hst⟩ : ∃ st, st = linesUp ls i := ⟨_, rfl⟩
        have HRD : Hid (RdAt wc.heap.size rb o st.c st.stage v Y wr) := (show RdAt wc.heap.size rb o st.c st.stage v Y wr from by rw [hst]; exact hrd.out)
        have hsd := up_sized ls i (by rw [HL.out]; exact Nat.le_refl _) hgd.out
        rw [← hst] at hsd
        have HCF := Lib.hid (HRD.out.conf hsd hL1)
        have HRdF : Hid (∀ r, (if st.stage < 2 then (zeroC, (1, (i : Int))) else if (confF st.c).1 ≠ 0 then (zeroC, confF st.c) else (st.c, (0, -1))) = r → readF s = r) := (show _ from by
          intro r hr
          unfold readF
          rw [if_neg (by omega), ← HLS.out, HMS.out, if_neg (by simp), ← HL.out, ← hst]
          exact hr)
        obtain ⟨ao, cap, hv⟩ := HRD.out.row.val
        rw [hv] at HCF HRD
        obtain ⟨y0, y1, y2, y3, y4, y5, yf⟩ := rd_cells HRD.out.blk
        have hqr2 : ¬ w.heap.size = rb := by omega
        have hqr3 : ¬ rb = w.heap.size := by omega
        clear hst hsd hv hrd hgd hkp
        by_cases h2 : st.stage < 2
        · have HR1 : Hid (readF s = (zeroC, (1, (i : Int)))) := (show readF s = (zeroC, (1, (i : Int))) from HRdF.out _ (by rw [if_pos h2]))
          have e1 := (HS.out.on HBr.out).all.1
          have hgt : 1 < B := HS.out.nb 0 (by decide)
          have hBt := HS.out.top
          have hg1 : ¬ 1 = w.heap.size := by omega
          have hg2 : ¬ w.heap.size = 1 := by omega
          have hq7 : w.heap.size < wr.heap.size := lt_of_get HXr.out
          have hgr : 1 < wr.heap.size := by omega
          have hne7 : ¬ w.heap.size = wr.heap.size := by omega
          have hne8 : ¬ wr.heap.size = w.heap.size := by omega
          have hne9 : ¬ 1 = wr.heap.size := by omega
          have F1 := Lib.hid (five_fault HBr.out (i : Int) (errv sa 1) (.int .i64 0) (.int .i64 0) (.int .i64 0) (.int .i64 0) (.slice none 0 0))
          have F2 := Lib.hid (fault_five HBr.out hq7 (i : Int) (errv sa 1) (.int .i64 0) (.int .i64 0) (.int .i64 0) (.int .i64 0) (.slice none 0 0))
          clear hgt hBt
          go_wp2_with fail
          go_region
          all_goals
            go_wp2_with fail
            refine bodyPost_ret (v := .tuple #[.agg #[.int .i64 0, .int .i64 0, .int .i64 0, .int .i64 0, .slice none 0 0], .iface 154 (.pointer (some ⟨wr.heap.size, 0, none⟩))]) (by simp [c0, c1, c2, c3, c4, hq7, results, Tryz.results36, go_sem, World.cell?_setCell_same, World.cell?_setCell_other]) rfl ?_
            rw [HR1.out]
            first
              | exact read_bad (err_fault (show FaultAt (World.drew _) _ _ _ from F1.out.1) (by omega) (by decide)) (by decide) F1.out.2.drew
              | exact read_bad (err_fault (show FaultAt (World.drew _) _ _ _ from F2.out.1) (by omega) (by decide)) (by decide) F2.out.2.drew
        · have hC := Lib.hid (check_any B sa _ st.c (.slice ao Y.length cap) Y wr (HS.out.on HBr.out) HCF.out (fun b hb => hb.2))
          have H2 := Lib.hid h2
          unfold confCs at hC
          go_wp2_with fail
          refine hC.out.mono ?_
          rintro e w7 ⟨u, rfl, hu, b7⟩
          have HX7 := Lib.hid (below_get b7 HXr.out (lt_of_get HXr.out))
          have HB7 := Lib.hid (HBr.out.trans (b7.mono HBr.out.size))
          have hsz7 := b7.size
          obtain ⟨d0, d1, d2, d3, d4⟩ := conf_cells (C := zeroC) HX7.out
          have df : ∀ o, w7.frozen? ⟨w.heap.size, o, none⟩ = false := fun o => by have := HX7.out; simp [World.frozen?, this]
          have HRB7 := Lib.hid (below_get b7 HRD.out.blk (lt_of_get HRD.out.blk))
          obtain ⟨x0, x1, x2, x3, x4, x5, xf⟩ := rd_cells HRB7.out
          have HC7 := Lib.hid ((HCF.out.below b7 (fun b hb => hb.2)))
          clear c0 c1 c2 c3 c4 cf y0 y1 y2 y3 y4 y5 yf b7 h2
          obtain ⟨⟨fc, fi⟩, hfc⟩ : ∃ f, f = confF st.c := ⟨_, rfl⟩
          rw [← hfc] at hu HRdF
          clear hfc
          have HU := Lib.hid hu
          rcases hu with ⟨hfi, rfl⟩ | ⟨h0i, hc0, fb, rfl, hF⟩
          · obtain rfl : fi = -1 := hfi
            cases fc with
            | zero =>
              have HR1 : Hid (readF s = (st.c, (0, -1))) := (show readF s = (st.c, (0, -1)) from HRdF.out _ (by rw [if_neg (show ¬ st.stage < 2 from by have := H2.out; omega), if_neg (by simp)]))
              have HK9 := Lib.hid (five_keep w7 w.heap.size (.int .i64 st.c.closed) (.int .i64 st.c.opn) (.int .i64 st.c.cycle) (.int .i64 st.c.delay) (.slice ao Y.length cap))
              have HBX := Lib.hid (below_five HB7.out (.int .i64 st.c.closed) (.int .i64 st.c.opn) (.int .i64 st.c.cycle) (.int .i64 st.c.delay) (.slice ao Y.length cap))
              have hwb := HB0.out.size
              have HCX := Lib.hid ((HC7.out.keep HK9.out (fun b hb hs => by have h1 : b = w.heap.size := hs; have := lt_of_get HX0.out; omega)).mono (S := fun b => w.heap.size ≤ b ∧ b < (((((w7.setCell ⟨w.heap.size, 0, none⟩ (.int .i64 st.c.closed)).setCell ⟨w.heap.size, 1, none⟩ (.int .i64 st.c.opn)).setCell ⟨w.heap.size, 2, none⟩ (.int .i64 st.c.cycle)).setCell ⟨w.heap.size, 3, none⟩ (.int .i64 st.c.delay)).setCell ⟨w.heap.size, 4, none⟩ (.slice ao Y.length cap)).heap.size) (fun b hb => ⟨by omega, by have h1 := HBr.out.size; have h2 := HK9.out.size; have h3 := hsz7; omega⟩))
              clear HU HRdF hwb
              have e0 : errv sa 0 = .nilIface := rfl
              rw [e0]
              go_wp2_with fail
              refine bodyPost_ret (v := .tuple #[.agg #[.int .i64 st.c.closed, .int .i64 st.c.opn, .int .i64 st.c.cycle, .int .i64 st.c.delay, .slice ao Y.length cap], .nilIface]) (by simp [d0, d1, d2, d3, d4, results, Tryz.results36, go_sem, World.cell?_setCell_same, World.cell?_setCell_other]) rfl ?_
              rw [HR1.out]
              exact ⟨ao, Y.length, cap, .nilIface, Y, rfl, .inl ⟨rfl, rfl⟩, fun _ => HCX.out, fun h => absurd rfl h, HBX.out⟩
            | succ k =>
              have HR1 : Hid (readF s = (zeroC, (k + 1, -1))) := (show readF s = (zeroC, (k + 1, -1)) from HRdF.out _ (by rw [if_neg (show ¬ st.stage < 2 from by have := H2.out; omega), if_pos (by simp)]))
              have HEI := Lib.hid (HU.out.keep (five_keep w7 w.heap.size (.int .i64 0) (.int .i64 0) (.int .i64 0) (.int .i64 0) (.slice none 0 0)) (fun fb h => by cases h))
              have HBX := Lib.hid (below_five HB7.out (.int .i64 0) (.int .i64 0) (.int .i64 0) (.int .i64 0) (.slice none 0 0))
              clear x0 x1 x2 x3 x4 x5 xf HU HRdF
              have e0 : errv sa (k + 1) = .iface 372 (.pointer (some (sa k))) := rfl
              rw [e0] at HEI ⊢
              go_wp2_with fail
              refine bodyPost_ret (v := .tuple #[.agg #[.int .i64 0, .int .i64 0, .int .i64 0, .int .i64 0, .slice none 0 0], .iface 372 (.pointer (some (sa k)))]) (by simp [d0, d1, d2, d3, d4, results, Tryz.results36, go_sem, World.cell?_setCell_same, World.cell?_setCell_other]) rfl ?_
              rw [HR1.out]
              exact read_bad HEI.out (by omega) HBX.out
          · have HR1 : Hid (readF s = (zeroC, (fc, fi))) := (show readF s = (zeroC, (fc, fi)) from HRdF.out _ (by rw [if_neg (show ¬ st.stage < 2 from by have := H2.out; omega), if_pos (by show fc ≠ 0; have h : 0 < fc := hc0; omega)]))
            have HEI := Lib.hid (HU.out.keep (five_keep w7 w.heap.size (.int .i64 0) (.int .i64 0) (.int .i64 0) (.int .i64 0) (.slice none 0 0)) (fun fb' h hs => by
              have h1 : fb' = w.heap.size := hs
              have h2 : fb = fb' := by injection h with _ h; injection h with h; injection h with h; injection h
              have h3 := HX7.out
              rw [← h1, ← h2, hF] at h3
              have h4 := Option.some.inj h3
              injection h4 with _ h5
              exact absurd h5 (by decide)))
            have HBX := Lib.hid (below_five HB7.out (.int .i64 0) (.int .i64 0) (.int .i64 0) (.int .i64 0) (.slice none 0 0))
            have HC0 : Hid (fc ≠ 0) := (show fc ≠ 0 from by have h : 0 < fc := hc0; omega)
            clear x0 x1 x2 x3 x4 x5 xf HU HRdF hF h0i hc0
            go_wp2_with fail
            refine bodyPost_ret (v := .tuple #[.agg #[.int .i64 0, .int .i64 0, .int .i64 0, .int .i64 0, .slice none 0 0], .iface 154 (.pointer (some ⟨fb, 0, none⟩))]) (by simp [d0, d1, d2, d3, d4, results, Tryz.results36, go_sem, World.cell?_setCell_same, World.cell?_setCell_other]) rfl ?_
            rw [HR1.out]
            exact read_bad HEI.out HC0.out HBX.out
end Go.Proofs.YtikehilbmldadaaGreatDoor
