import Derived.Test.YtikehilbmldadaaGreatDoorQ19
import Derived.Test.YtikehilbmldadaaGreatDoorQ21
import Derived.Test.YtikehilbmldadaaGreatDoorQ01
import Derived.Test.YtikehilbmldadaaGreatDoorQ17
set_option maxHeartbeats 8000000
set_option maxRecDepth 100000
namespace Go.Proofs.YtikehilbmldadaaGreatDoor
open Go.RowKit
set_option linter.unusedVariables false
structure ConfV where
  closed : Int
  opn : Int
  cycle : Int
  delay : Int
  ents : List EntV
def confCs (C : ConfV) (v : Value) : Array Value := #[.int .i64 C.closed, .int .i64 C.opn, .int .i64 C.cycle, .int .i64 C.delay, v]
theorem conf_cells {w : World} {b : Nat} {C : ConfV} {v : Value} (h : w.heap[b]? = some (.cells (confCs C v) 30)) :
    w.cell? ⟨b, 0, none⟩ = some (.int .i64 C.closed) ∧ w.cell? ⟨b, 1, none⟩ = some (.int .i64 C.opn) ∧ w.cell? ⟨b, 2, none⟩ = some (.int .i64 C.cycle) ∧ w.cell? ⟨b, 3, none⟩ = some (.int .i64 C.delay) ∧ w.cell? ⟨b, 4, none⟩ = some v := by
  unfold confCs at h
  simp [World.cell?, h]
def boundC (C : ConfV) : Bool := decide (C.closed < 0 ∨ 1000 < C.closed ∨ C.opn < 1 ∨ 1000 < C.opn ∨ C.cycle < 1 ∨ 100 < C.cycle ∨ C.delay < 0 ∨ 20 < C.delay ∨ 8 < C.ents.length)
def entAt (L : List EntV) (i : Nat) : Nat := match L[i]? with | some E => entErr ((L.take i).map EntV.name) E | none => 0
theorem entAt_at {L : List EntV} {i : Nat} (h : i < L.length) : entAt L i = entErr ((L.take i).map EntV.name) L[i] := by
  unfold entAt
  rw [List.getElem?_eq_getElem h]
def entsF (L : List EntV) : Nat × Int := match (List.range L.length).find? (fun i => entAt L i != 0) with | some i => (entAt L i, (i : Int)) | none => (0, -1)
theorem entsF_hit {L : List EntV} {k : Nat} (hk : k < L.length) (h : entAt L k ≠ 0) (hb : ∀ j, j < k → entAt L j = 0) : entsF L = (entAt L k, (k : Int)) := by
  have : (List.range L.length).find? (fun i => entAt L i != 0) = some k := by
    rw [List.find?_range_eq_some]
    refine ⟨by simpa using h, List.mem_range.2 hk, fun j hj => ?_⟩
    simp [hb j hj]
  unfold entsF
  rw [this]
theorem entsF_miss {L : List EntV} (h : ∀ j, j < L.length → entAt L j = 0) : entsF L = (0, -1) := by
  have : (List.range L.length).find? (fun i => entAt L i != 0) = none := by
    rw [List.find?_eq_none]
    intro i hi
    simp [h i (List.mem_range.1 hi)]
  unfold entsF
  rw [this]
def confF (C : ConfV) : Nat × Int := if boundC C = true then (2, -1) else if C.opn < C.cycle then (3, -1) else entsF C.ents
def ErrIs (sa : Nat → Addr) (w : World) (v : Value) (f : Nat × Int) : Prop :=
  (f.2 = -1 ∧ v = errv sa f.1) ∨ (0 ≤ f.2 ∧ 0 < f.1 ∧ ∃ fb, v = .iface 154 (.pointer (some ⟨fb, 0, none⟩)) ∧ FaultAt w fb f.2 (errv sa f.1))
theorem ErrIs.keep {S : Nat → Prop} {sa : Nat → Addr} {w w' : World} {v : Value} {f : Nat × Int} (h : ErrIs sa w v f) (k : Keep S w w') (hS : ∀ fb, v = .iface 154 (.pointer (some ⟨fb, 0, none⟩)) → ¬ S fb) : ErrIs sa w' v f := by
  rcases h with h | ⟨h1, h2, fb, h3, h4⟩
  · exact .inl h
  · exact .inr ⟨h1, h2, fb, h3, k.get h4 (hS fb h3)⟩
theorem ErrIs.below {sa : Nat → Addr} {w w' : World} {v : Value} {f : Nat × Int} (h : ErrIs sa w v f) (b : Below w.heap.size w w') : ErrIs sa w' v f := h.keep (below_keep b) (fun _ _ h => h)
theorem ErrIs.bare (sa : Nat → Addr) (w : World) (n : Nat) : ErrIs sa w (errv sa n) (n, -1) := .inl ⟨rfl, rfl⟩
structure ConfSl (R : Nat → Prop) (w : World) (C : ConfV) (v : Value) (X : List EntX) : Prop where
  sl : EntsSl R w v X
  eq : C.ents = X.map EntX.E
  small : ∀ x ∈ X, EntSmall x.E
  len : X.length ≤ 1000
theorem ConfSl.keep {R S : Nat → Prop} {w w' : World} {C : ConfV} {v : Value} {X : List EntX} (h : ConfSl R w C v X) (k : Keep S w w') (hd : ∀ b, R b → ¬ S b) : ConfSl R w' C v X := ⟨h.sl.keep k hd, h.eq, h.small, h.len⟩
theorem ConfSl.below {B : Nat} {R : Nat → Prop} {w w' : World} {C : ConfV} {v : Value} {X : List EntX} (h : ConfSl R w C v X) (b : Below B w w') (hd : ∀ b, R b → b < B) : ConfSl R w' C v X := h.keep (Keep.of_below b) (fun b hb hS => by have := hd b hb; omega)
theorem check_any (B : Nat) (sa : Nat → Addr) (R : Nat → Prop) (C : ConfV) (v : Value) (X : List EntX) (w : World) (hS : SentsC B sa w) (h : ConfSl R w C v X) (hR : ∀ b, R b → b < w.heap.size) :
    Calls Tryz.prog 57 #[.agg (confCs C v)] w fun e w' => ∃ u, e = .returned u ∧ ErrIs sa w' u (confF C) ∧ Below w.heap.size w w' := by
  obtain ⟨ao, cap, rfl⟩ := h.sl.row.val
  obtain ⟨hc1, hc2⟩ := h.sl.row.capB
  have hlen : C.ents.length = X.length := by rw [h.eq, List.length_map]
  have hXl := h.len
  have H := Lib.hid h
  have HS := Lib.hid hS
  have HRw := Lib.hid hR
  have hxa := get_alloc_new w (.cells (confCs C (.slice ao X.length cap)) 30)
  have hba : Below w.heap.size w (w.alloc (.cells (confCs C (.slice ao X.length cap)) 30)) := (Below.refl _ _).alloc (Nat.le_refl _) _
  clear h hS hR
  unfold confCs at hxa hba ⊢
  go_enter Tryz.func57, Tryz.ntmps57
  go_upto_region 1 with fail
  generalize w.alloc _ = w1 at hxa hba ⊢
  have HXA : Hid (w1.heap[w.heap.size]? = some (.cells (confCs C (.slice ao X.length cap)) 30)) := hxa
  obtain ⟨c0, c1, c2, c3, c4⟩ := conf_cells HXA.out
  clear hxa
  go_cut [6] (fun s wx => s = .bool (boundC C) ∧ w1 = wx)
  case first =>
    by_cases h1 : C.closed < 0
    · have HB := Lib.hid (show boundC C = true from decide_eq_true (.inl h1))
      go_wp2_with fail
      go_meet
      exact ⟨val_bool HB.out.symm, rfl⟩
    by_cases h2 : 1000 < C.closed
    · have HB := Lib.hid (show boundC C = true from decide_eq_true (by omega))
      go_wp2_with fail
      go_meet
      exact ⟨val_bool HB.out.symm, rfl⟩
    by_cases h3 : C.opn < 1
    · have HB := Lib.hid (show boundC C = true from decide_eq_true (by omega))
      go_wp2_with fail
      go_meet
      exact ⟨val_bool HB.out.symm, rfl⟩
    by_cases h4 : 1000 < C.opn
    · have HB := Lib.hid (show boundC C = true from decide_eq_true (by omega))
      go_wp2_with fail
      go_meet
      exact ⟨val_bool HB.out.symm, rfl⟩
    by_cases h5 : C.cycle < 1
    · have HB := Lib.hid (show boundC C = true from decide_eq_true (by omega))
      go_wp2_with fail
      go_meet
      exact ⟨val_bool HB.out.symm, rfl⟩
    by_cases h6 : 100 < C.cycle
    · have HB := Lib.hid (show boundC C = true from decide_eq_true (by omega))
      go_wp2_with fail
      go_meet
      exact ⟨val_bool HB.out.symm, rfl⟩
    by_cases h7 : C.delay < 0
    · have HB := Lib.hid (show boundC C = true from decide_eq_true (by omega))
      go_wp2_with fail
      go_meet
      exact ⟨val_bool HB.out.symm, rfl⟩
    by_cases h8 : 20 < C.delay
    · have HB := Lib.hid (show boundC C = true from decide_eq_true (by omega))
      go_wp2_with fail
      go_meet
      exact ⟨val_bool HB.out.symm, rfl⟩
    have HB := Lib.hid (show boundC C = decide (8 < (X.length : Int)) from by unfold boundC; rw [decide_eq_decide]; omega)
    go_wp2_with fail
    go_meet
    exact ⟨val_bool HB.out.symm, rfl⟩
  case rest =>
  obtain ⟨rfl, rfl⟩ := hcut
  cases hbd : boundC C
  case true =>
    have HT := Lib.hid (show confF C = (2, -1) from if_pos hbd)
    obtain ⟨_, g1, _, _, _, _⟩ := (HS.out.on hba).all
    clear hbd
    go_wp2_with fail
    go_ret
    exact ⟨_, rfl, by rw [HT.out]; exact ErrIs.bare sa _ 2, hba⟩
  case false =>
  by_cases hcy : C.opn < C.cycle
  · have HT := Lib.hid (show confF C = (3, -1) from by unfold confF; rw [if_neg (by rw [hbd]; decide), if_pos hcy])
    obtain ⟨_, _, g2, _, _, _⟩ := (HS.out.on hba).all
    clear hbd
    go_wp2_with fail
    go_ret
    exact ⟨_, rfl, by rw [HT.out]; exact ErrIs.bare sa _ 3, hba⟩
  have HT := Lib.hid (show confF C = entsF C.ents from by unfold confF; rw [if_neg (by rw [hbd]; decide), if_neg hcy])
  clear hbd
  go_wp2_with fail
  go_loopw [62] (fun s wr => ∃ i : Nat, i ≤ X.length ∧ s = .int .i64 i ∧ Below w.heap.size w wr ∧ Hid (wr.heap[w.heap.size]? = some (.cells (confCs C (.slice ao X.length cap)) 30)) ∧ Hid (∀ j, j < i → entAt C.ents j = 0)) (fun s _ => X.length - (intOf s).toNat)
  case atStart => exact ⟨0, Nat.zero_le _, rfl, hba, HXA, fun j h => by omega⟩
  case round =>
    obtain ⟨i, hi, rfl, hbl, hxc, hall⟩ := hrel
    clear HXA hba c0 c1 c2 c3 c4
    by_cases hlt : i < X.length
    · obtain ⟨b, off, rfl, hRb, hb, hc⟩ := ent_elem H.out.sl.row (by omega)
      obtain ⟨q0, q1, q2, q3, q4, q5, q6, q7, q8, q9⟩ := hc i hlt
      have hRb' := HRw.out b hRb
      rw [← hbl.cell hRb'] at q0 q1 q2 q3 q4 q5 q6 q7 q8 q9
      have hi2 : (i : Int) ≤ (cap : Int) := by omega
      have hsub := fun W => run_sub_ents W b off X.length cap i (by omega)
      have HEr := Lib.hid (show entAt C.ents i = entErr ((X.take i).map xName) X[i].E from by
        rw [entAt_at (by omega)]
        simp only [H.out.eq, List.getElem_map, ← List.map_take, List.map_map]
        rfl)
      have HCe := Lib.hid (fun W (hB : Below w.heap.size w W) => entity_any B sa R (X.take i) (.slice (some ⟨b, off, none⟩) i cap) X[i].E X[i].p X[i].g X[i].e X[i].f X[i].l W (HS.out.on hB) ((H.out.sl.each X[i] (List.getElem_mem hlt)).keep (Keep.of_below hB) (fun b hb hS => by have := HRw.out b hb; omega)) ((SlOf.cut (f := entXCells) H.out.sl.row (fun _ => rfl) i (by omega)).below hB HRw.out) (below_lt2 HRw.out hB) (H.out.small X[i] (List.getElem_mem hlt)) (by rw [List.length_take]; omega))
      unfold entCs at HCe
      rw [← HEr.out] at HCe
      obtain ⟨er, her⟩ : ∃ er, er = entAt C.ents i := ⟨_, rfl⟩
      rw [← her] at HCe
      have HQ := Lib.hid her
      obtain ⟨vE, hvE⟩ : ∃ vE, vE = errv sa er := ⟨_, rfl⟩
      rw [← hvE] at HCe
      have HVE := Lib.hid hvE
      have hEs := H.out.sl.each X[i] (List.getElem_mem hlt)
      obtain ⟨pa, pc, hvp⟩ := hEs.p.val
      obtain ⟨ga, gc, hvg⟩ := hEs.g.val
      obtain ⟨ea, ec, hve⟩ := hEs.e.val
      obtain ⟨fa, fc, hvf⟩ := hEs.f.val
      obtain ⟨la, lc, hvl⟩ := hEs.l.val
      rw [hvp, hvg, hve, hvf, hvl] at HCe
      rw [hvp] at q2
      rw [hvg] at q6
      rw [hve] at q7
      rw [hvf] at q8
      rw [hvl] at q9
      obtain ⟨xe, hxe⟩ : ∃ xe, xe = X[i].E := ⟨_, rfl⟩
      rw [← hxe] at HCe q0 q1 q2 q3 q4 q5 q6 q7 q8 q9
      clear hc hvE her HEr hvp hvg hve hvf hvl hEs hxe
      go_upto_region 8 with fail
      have hxb := get_alloc_new wr (.cells (entCs xe (.slice pa xe.points.length pc) (.slice ga xe.gaps.length gc) (.slice ea xe.edges.length ec) (.slice fa xe.first.length fc) (.slice la xe.last.length lc)) 50)
      have hbb : Below wr.heap.size wr (wr.alloc (.cells (entCs xe (.slice pa xe.points.length pc) (.slice ga xe.gaps.length gc) (.slice ea xe.edges.length ec) (.slice fa xe.first.length fc) (.slice la xe.last.length lc)) 50)) := (Below.refl _ _).alloc (Nat.le_refl _) _
      unfold entCs at hxb hbb
      generalize wr.alloc _ = wb at hxb hbb ⊢
      obtain ⟨z0, z1, z2, z3, z4, z5, z6, z7, z8, z9, zf⟩ := ten_cells hxb
      have hxcb := below_get hbb hxc.out (lt_of_get hxc.out)
      obtain ⟨c0, c1, c2, c3, c4⟩ := conf_cells hxcb
      have hbw := hbl.trans (hbb.mono hbl.size)
      have hlb := lt_of_get hxb
      have hlc := lt_of_get hxcb
      have HXCB := Lib.hid hxcb
      obtain ⟨bb, hbq⟩ : ∃ bb, bb = wr.heap.size := ⟨_, rfl⟩
      rw [← hbq] at z0 z1 z2 z3 z4 z5 z6 z7 z8 z9 hlb ⊢
      clear hbq hxb hbb hxcb zf q0 q1 q2 q3 q4 q5 q6 q7 q8 q9 c0 c1 c2 c3
      go_cut [5] (fun s wx => s = vE ∧ Below w.heap.size w wx ∧ Below wb.heap.size wb wx)
      case first =>
       go_region_held3 (fun w' => (∀ o, w'.cell? ⟨bb, o, none⟩ = wb.cell? ⟨bb, o, none⟩) ∧ (∀ o, w'.cell? ⟨w.heap.size, o, none⟩ = wb.cell? ⟨w.heap.size, o, none⟩))
        (first | exact ⟨fun _ => rfl, fun _ => rfl⟩ | exact ⟨fun o => d1.cell (p := ⟨bb, o, none⟩) hlb, fun o => d1.cell (p := ⟨w.heap.size, o, none⟩) hlc⟩)
        (first | (go_at_call 97; refine (HCe.out _ ?_).mono ?_; (repeat (first | exact hbw | refine Below.drew ?_)); rintro e w2 ⟨rfl, b2⟩; have d1 : Below wb.heap.size wb w2 := (by repeat (first | exact Below.refl _ _ | exact b2 | refine Below.drew ?_ | refine Below.trans ?_ b2))))
       all_goals (go_wp2_with fail; go_meet)
       all_goals exact ⟨rfl, by repeat (first | exact hbw.trans (d1.mono hbw.size) | refine Below.drew ?_), by repeat (first | exact d1 | refine Below.drew ?_)⟩
      case rest =>
      obtain ⟨rfl, hb2, hb3⟩ := hcut
      have HXC2 := Lib.hid (below_get hb3 HXCB.out hlc)
      clear z0 z1 z2 z3 z4 z5 z6 z7 z8 z9 c4 HCe hbw hb3
      cases er with
      | zero =>
        have nx : Hid (∀ j, j < i + 1 → entAt C.ents j = 0) := (show ∀ j, j < i + 1 → entAt C.ents j = 0 from fun j hj => by
          by_cases e : j = i
          · rw [e]; exact HQ.out.symm
          · exact hall.out j (by omega))
        rw [HVE.out, show errv sa 0 = .nilIface from rfl]
        clear hall
        go_wp2_with fail
        go_roundw
        case rel => exact ⟨i + 1, by omega, by go_num, hb2, HXC2, nx⟩
        case measure => simp [intOf]; omega
      | succ n =>
        have HT2 := Lib.hid (show entsF C.ents = (n + 1, (i : Int)) from by rw [entsF_hit (by omega) (by rw [← HQ.out]; omega) hall.out, ← HQ.out])
        have hF := get_alloc_new wc (.cells #[.int .i64 i, errv sa (n + 1)] 156)
        have hB9 : Below w.heap.size w (wc.alloc (.cells #[.int .i64 i, errv sa (n + 1)] 156)) := hb2.alloc hb2.size _
        have HF := Lib.hid hF
        have HB9 := Lib.hid hB9
        rw [HVE.out, errv_succ]
        rw [errv_succ] at HF HB9
        clear hF hB9 hall
        go_wp2_with fail
        go_ret
        refine ⟨_, rfl, ?_, HB9.out⟩
        rw [HT.out, HT2.out]
        exact .inr ⟨by show (0 : Int) ≤ (i : Int); omega, Nat.succ_pos _, _, rfl, HF.out⟩
    · have HT2 := Lib.hid (entsF_miss (L := C.ents) (fun j hj => hall.out j (by omega)))
      go_wp2_with fail
      go_ret
      exact ⟨_, rfl, by rw [HT.out, HT2.out]; exact ErrIs.bare sa _ 0, hbl⟩
structure SentsK (B : Nat) (sa : Nat → Addr) (w : World) : Prop where
  gl : ∀ k, k < 11 → w.cell? ⟨sg k, 0, none⟩ = some (errv sa (k + 1))
  nb : ∀ k, k < 11 → sg k < B
  top : B ≤ w.heap.size
theorem Sents.k {B : Nat} {sa : Nat → Addr} {w : World} (h : Sents B sa w) : SentsK B sa w := ⟨h.gl, h.nb.1, h.top⟩
instance {B : Nat} {sa : Nat → Addr} {w : World} : Coe (Sents B sa w) (SentsK B sa w) := ⟨Sents.k⟩
theorem SentsK.keep {B : Nat} {sa : Nat → Addr} {S : Nat → Prop} {w w' : World} (h : SentsK B sa w) (k : Keep S w w') (hS : ∀ b, S b → B ≤ b) : SentsK B sa w' := by
  have ht := h.top
  refine ⟨fun i hi => ?_, h.nb, Nat.le_trans ht k.size⟩
  have := h.nb i hi
  rw [k.cell (p := ⟨sg i, 0, none⟩) (show sg i < w.heap.size by omega) (fun hb => by have := hS _ hb; simp only at this; omega)]
  exact h.gl i hi
theorem SentsK.below {B : Nat} {sa : Nat → Addr} {w w' : World} (h : SentsK B sa w) (b : Below w.heap.size w w') : SentsK B sa w' := h.keep (below_keep b) (fun _ h => h.elim)
theorem SentsK.low {B C : Nat} {sa : Nat → Addr} {w w' : World} (h : SentsK B sa w) (b : Below C w w') (hC : B ≤ C) : SentsK B sa w' := h.keep (Keep.of_below b) (fun k hk => Nat.le_trans hC hk)
theorem SentsK.all {B : Nat} {sa : Nat → Addr} {w : World} (h : SentsK B sa w) :
    w.cell? ⟨1, 0, none⟩ = some (.iface 372 (.pointer (some (sa 0)))) ∧ w.cell? ⟨0, 0, none⟩ = some (.iface 372 (.pointer (some (sa 1)))) ∧ w.cell? ⟨2, 0, none⟩ = some (.iface 372 (.pointer (some (sa 2)))) ∧
    w.cell? ⟨3, 0, none⟩ = some (.iface 372 (.pointer (some (sa 3)))) ∧ w.cell? ⟨4, 0, none⟩ = some (.iface 372 (.pointer (some (sa 4)))) ∧ w.cell? ⟨5, 0, none⟩ = some (.iface 372 (.pointer (some (sa 5)))) ∧
    w.cell? ⟨6, 0, none⟩ = some (.iface 372 (.pointer (some (sa 6)))) ∧ w.cell? ⟨7, 0, none⟩ = some (.iface 372 (.pointer (some (sa 7)))) ∧ w.cell? ⟨8, 0, none⟩ = some (.iface 372 (.pointer (some (sa 8)))) ∧
    w.cell? ⟨9, 0, none⟩ = some (.iface 372 (.pointer (some (sa 9)))) ∧ w.cell? ⟨10, 0, none⟩ = some (.iface 372 (.pointer (some (sa 10)))) :=
  ⟨h.gl 0 (by decide), h.gl 1 (by decide), h.gl 2 (by decide), h.gl 3 (by decide), h.gl 4 (by decide), h.gl 5 (by decide), h.gl 6 (by decide), h.gl 7 (by decide), h.gl 8 (by decide), h.gl 9 (by decide), h.gl 10 (by decide)⟩
theorem SentsK.r {B : Nat} {sa : Nat → Addr} {w : World} (h : SentsK B sa w) : SentsR B sa w :=
  ⟨h.gl 1 (by decide), h.gl 2 (by decide), h.gl 6 (by decide), h.gl 7 (by decide), ⟨h.nb 1 (by decide), h.nb 2 (by decide), h.nb 6 (by decide), h.nb 7 (by decide)⟩, h.top⟩
theorem SentsK.c {B : Nat} {sa : Nat → Addr} {w : World} (h : SentsK B sa w) : SentsC B sa w := ⟨fun k hk => h.gl k (by omega), fun k hk => h.nb k (by omega), h.top⟩
instance {B : Nat} {sa : Nat → Addr} {w : World} : Coe (SentsK B sa w) (SentsR B sa w) := ⟨SentsK.r⟩
end Go.Proofs.YtikehilbmldadaaGreatDoor
