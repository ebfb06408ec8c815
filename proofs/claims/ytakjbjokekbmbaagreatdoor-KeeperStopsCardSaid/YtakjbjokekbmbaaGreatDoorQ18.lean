/- The document's EntityError. -/
import Derived.Test.YtakjbjokekbmbaaGreatDoorQ17
namespace Go.Proofs.YtakjbjokekbmbaaGreatDoor
open Go.RowKit
set_option linter.unusedVariables false

def topW (E : EntV) : Bool := decide (E.tol < 0 ∨ 20 < E.tol ∨ 16 < E.points.length ∨ 8 < E.gaps.length ∨ 64 < E.edges.length)
def fstW (E : EntV) : Bool := decide (16 < E.first.length ∨ 16 < E.last.length)
def cntW (E : EntV) : Bool := decide (E.count < -1 ∨ (E.points.length : Int) ≤ E.count)
def cmmW (E : EntV) : Bool := decide (E.count = -1 ∧ (E.mn ≠ 0 ∨ E.mx ≠ 0))
def rngW (E : EntV) : Bool := decide (E.mn < 0 ∨ E.mx < E.mn ∨ 1000 ≤ E.mx)
def s1W (E : EntV) : Bool := decide (0 < E.edges.length ∧ E.first.length = 0)
def s2W (E : EntV) : Bool := decide (E.edges.length = 0 ∧ 0 < E.first.length + E.last.length)
/-- An entity's error, beside those of the names ahead: its number; 0: none. -/
def entErr (ahead : List ByteArray) (E : EntV) : Nat :=
  if isNameB E.name = false then 4 else if hasStr ahead E.name = true then 6 else if topW E = true then 2 else if fstW E = true then 2 else if ptsE E.points ≠ 0 then ptsE E.points else if cntW E = true then 5
  else if strangeB E = true then 5 else if cmmW E = true then 3 else if rngW E = true then 2 else if E.gaps.any gapWrong = true then 2 else if edgesTwice E.edges = true then 6 else if twiceB E.first = true then 6 else if twiceB E.last = true then 6
  else if s1W E = true then 3 else if s2W E = true then 3 else 0
def xName (x : EntX) : ByteArray := x.E.name
theorem hasStr_hit {L : List ByteArray} {s : ByteArray} (j : Nat) (hj : j < L.length) (h : L[j].toList = s.toList) : hasStr L s = true := List.any_eq_true.2 ⟨_, List.getElem_mem hj, by simp [h]⟩
theorem hasStr_miss {L : List ByteArray} {s : ByteArray} (h : ∀ j (hj : j < L.length), L[j].toList ≠ s.toList) : hasStr L s = false := List.any_eq_false.2 (fun x hx => by
  obtain ⟨j, hj, rfl⟩ := List.mem_iff_getElem.1 hx
  simpa using h j hj)
theorem ent_elem {R : Nat → Prop} {w : World} {ao : Option Addr} {n cap : Nat} {X : List EntX} (h : SlOf R w (.slice ao n cap) 10 (X.flatMap entXCells) X.length) (h0 : 0 < X.length) :
    ∃ b off, ao = some ⟨b, off, none⟩ ∧ R b ∧ b < w.heap.size ∧ ∀ k (hk : k < X.length), w.cell? ⟨b, off + k * 10, none⟩ = some (.string X[k].E.name) ∧ w.cell? ⟨b, off + k * 10 + 1, none⟩ = some (.int .i64 X[k].E.tol) ∧ w.cell? ⟨b, off + k * 10 + 2, none⟩ = some X[k].p ∧
      w.cell? ⟨b, off + k * 10 + 3, none⟩ = some (.int .i64 X[k].E.count) ∧ w.cell? ⟨b, off + k * 10 + 4, none⟩ = some (.int .i64 X[k].E.mn) ∧ w.cell? ⟨b, off + k * 10 + 5, none⟩ = some (.int .i64 X[k].E.mx) ∧ w.cell? ⟨b, off + k * 10 + 6, none⟩ = some X[k].g ∧
      w.cell? ⟨b, off + k * 10 + 7, none⟩ = some X[k].e ∧ w.cell? ⟨b, off + k * 10 + 8, none⟩ = some X[k].f ∧ w.cell? ⟨b, off + k * 10 + 9, none⟩ = some X[k].l := by
  obtain ⟨b, off, ha, hR, hb, hc⟩ := h.elem (fun _ => rfl) (by decide) h0
  exact ⟨b, off, ha, hR, hb, fun k hk => ⟨hc k hk 0 _ rfl, hc k hk 1 _ rfl, hc k hk 2 _ rfl, hc k hk 3 _ rfl, hc k hk 4 _ rfl, hc k hk 5 _ rfl, hc k hk 6 _ rfl, hc k hk 7 _ rfl, hc k hk 8 _ rfl, hc k hk 9 _ rfl⟩⟩

theorem below_lt2 {R : Nat → Prop} {w w' : World} (hR : ∀ b, R b → b < w.heap.size) (h : Below w.heap.size w w') : ∀ b, R b → b < w'.heap.size := fun b hb => Nat.lt_of_lt_of_le (hR b hb) h.size
set_option maxRecDepth 100000 in
set_option maxHeartbeats 4000000 in
theorem entErr_any (R : Nat → Prop) (X : List EntX) (v : Value) (i : Nat) (hi : i < X.length) (w : World) (h : EntsSl R w v X) (hR : ∀ b, R b → b < w.heap.size) (hE : EntSmall X[i].E) (hX : X.length ≤ 1000) :
    Calls Tryz.prog 29 #[v, .int .i64 i] w fun e w' => e = .returned (.int .i64 (entErr ((X.take i).map xName) X[i].E : Nat)) ∧ Below w.heap.size w w' := by
  obtain ⟨ao, cap, rfl⟩ := h.row.val
  obtain ⟨b, off, rfl, hRb, hb, hc⟩ := ent_elem h.row (by omega)
  obtain ⟨q0, q1, q2, q3, q4, q5, q6, q7, q8, q9⟩ := hc i hi
  have hsl := h.each X[i] (List.getElem_mem hi)
  obtain ⟨ahead, hah⟩ : ∃ ahead, ahead = (X.take i).map xName := ⟨_, rfl⟩
  rw [← hah]
  have hahl : ahead.length = i := by rw [hah]; simp; omega
  have HNM : Hid (∀ k (hk : k < i) (hk2 : k < ahead.length), (w.cell? ⟨b, off + k * 10, none⟩ = some (.string ahead[k]))) := (show ∀ k (hk : k < i) (hk2 : k < ahead.length), (w.cell? ⟨b, off + k * 10, none⟩ = some (.string ahead[k])) from fun k hk hk2 => by
    have := (hc k (by omega)).1
    rw [this]
    subst hah
    simp [xName])
  clear hc hah
  obtain ⟨E, hEE⟩ : ∃ E, E = X[i].E := ⟨_, rfl⟩
  obtain ⟨vp, hvp⟩ : ∃ vp, vp = X[i].p := ⟨_, rfl⟩
  obtain ⟨vg, hvg⟩ : ∃ vg, vg = X[i].g := ⟨_, rfl⟩
  obtain ⟨ve, hve⟩ : ∃ ve, ve = X[i].e := ⟨_, rfl⟩
  obtain ⟨vf, hvf⟩ : ∃ vf, vf = X[i].f := ⟨_, rfl⟩
  obtain ⟨vl, hvl⟩ : ∃ vl, vl = X[i].l := ⟨_, rfl⟩
  rw [← hEE] at q0 q1 q3 q4 q5 hsl hE ⊢
  rw [← hvp] at q2 hsl
  rw [← hvg] at q6 hsl
  rw [← hve] at q7 hsl
  rw [← hvf] at q8 hsl
  rw [← hvl] at q9 hsl
  clear hvp hvg hve hvf hvl
  obtain ⟨pa, pc, rfl⟩ := hsl.p.val
  obtain ⟨ga, gc, rfl⟩ := hsl.g.val
  obtain ⟨ea, ec, rfl⟩ := hsl.e.val
  obtain ⟨fa, fc, rfl⟩ := hsl.f.val
  obtain ⟨la, lc, rfl⟩ := hsl.l.val
  have hEB : EB w R E _ _ _ _ _ w.heap.size (w.alloc (.cells (entCs E (.slice pa E.points.length pc) (.slice ga E.gaps.length gc) (.slice ea E.edges.length ec) (.slice fa E.first.length fc) (.slice la E.last.length lc)) 38)) :=
    ⟨get_alloc_new _ _, hsl.keep (below_keep ((Below.refl _ _).alloc (Nat.le_refl _) _)) (fun _ _ h => h), (Below.refl _ _).alloc (Nat.le_refl _) _, hR, Nat.le_refl _⟩
  have HAL := Lib.hid hahl
  have HE1 := Lib.hid hEB
  unfold entCs at HE1
  clear h hsl hEE hEB hahl
  go_enter Tryz.func29, Tryz.ntmps29
  go_upto_region 2 with fail
  generalize w.alloc _ = w1 at HE1 ⊢
  have HNM1 : Hid (∀ k (hk : k < i) (hk2 : k < ahead.length), (w1.cell? ⟨b, off + k * 10, none⟩ = some (.string ahead[k]))) := (show ∀ k (hk : k < i) (hk2 : k < ahead.length), (w1.cell? ⟨b, off + k * 10, none⟩ = some (.string ahead[k])) from fun k hk hk2 => by
    rw [HE1.out.bel.cell (p := ⟨b, off + k * 10, none⟩) hb]
    exact HNM.out k hk hk2)
  clear HNM q0 q1 q2 q3 q4 q5 q6 q7 q8 q9
  obtain ⟨c0, c1, c2, c3, c4, c5, c6, c7, c8, c9⟩ := HE1.out.cells
  have he := HE1
  go_wp2_with fail
  refine (isName_any _ w1).mono ?_
  rintro e w' ⟨rfl, rfl⟩
  cases hnm : isNameB E.name with
  | false =>
    have F1 := Lib.hid hnm
    clear hnm
    go_wp2_with fail
    go_ret
    exact ⟨ret_int (by rw [show entErr ahead E = 4 from by simp [entErr, F1.out]]; rfl), he.out.bel⟩
  | true =>
  have F1 := Lib.hid hnm
  clear hnm c0 c1 c2 c3 c4 c5 c6 c7 c8 c9 he
  go_wp2_with fail
  go_loopw [4, 7] (fun s4 s7 wr => ∃ k q : Nat, k ≤ i ∧ s4 = .int .i64 0 ∧ s7 = .int .i64 k ∧ wr = w1.drewN q ∧ Hid (∀ j (hj : j < ahead.length), j < k → ahead[j].toList ≠ E.name.toList)) (fun _ s7 _ => i - (intOf s7).toNat)
  case atStart => exact ⟨0, 0, Nat.zero_le _, rfl, rfl, rfl, fun j _ h => by omega⟩
  case round =>
    obtain ⟨k, q, hk, rfl, rfl, rfl, hall⟩ := hrel
    have he0 : EB w R E (.slice pa E.points.length pc) (.slice ga E.gaps.length gc) (.slice ea E.edges.length ec) (.slice fa E.first.length fc) (.slice la E.last.length lc) w.heap.size (w1.drewN q) := HE1.out.keep (keep_drewN q (Keep.refl (fun _ => False) _)) (fun _ h _ => h.elim)
    have he := Lib.hid he0
    clear he0
    by_cases hlt : k < i
    · have hka : k < ahead.length := by have := HAL.out; omega
      have q0 := HNM1.out k hlt hka
      have hkx : (k : Int) < (X.length : Int) := by omega
      obtain ⟨c0, c1, c2, c3, c4, c5, c6, c7, c8, c9⟩ := HE1.out.cells
      clear c1 c2 c3 c4 c5 c6 c7 c8 c9
      by_cases hx : ahead[k].toList = E.name.toList
      · have hxb : (ahead[k].toList == E.name.toList) = true := by simp [hx]
        have F2 := Lib.hid (hasStr_hit k hka hx)
        clear hx
        go_wp2_with fail
        go_quiet (fail)
        go_wp2_with fail
        go_ret
        exact ⟨ret_int (by rw [show entErr ahead E = 6 from by simp [entErr, F1.out, F2.out]]; rfl), below_drewN' _ he.out.bel⟩
      · have hxb : (ahead[k].toList == E.name.toList) = false := by simp [hx]
        have HX := Lib.hid hx
        clear hx
        go_wp2_with fail
        go_quiet (fail)
        go_wp2_with fail
        go_roundw
        case rel => exact ⟨k + 1, _, by omega, rfl, by go_num, rfl, (show ∀ j (hj : j < ahead.length), j < k + 1 → ahead[j].toList ≠ E.name.toList from fun j hj hji => by
          by_cases e : j = k
          · subst e; exact HX.out
          · exact hall.out j hj (by omega))⟩
        case measure => simp [intOf]; omega
    · have F2 := Lib.hid (hasStr_miss (L := ahead) (s := E.name) (fun j hj => hall.out j hj (by have := HAL.out; omega)))
      clear HNM1 HE1 hall
      generalize World.drewN _ _ = w2 at he ⊢
      obtain ⟨c0, c1, c2, c3, c4, c5, c6, c7, c8, c9⟩ := he.out.cells
      by_cases h1 : E.tol < 0
      · have F3 := Lib.hid (show topW E = true from decide_eq_true (.inl h1))
        go_wp2_with fail
        all_goals
          go_ret
          exact ⟨ret_int (by rw [show entErr ahead E = 2 from by simp only [entErr, F1.out, F2.out, F3.out]; simp]; rfl), he.out.bel⟩
      by_cases h2 : 20 < E.tol
      · have F3 := Lib.hid (show topW E = true from decide_eq_true (by omega))
        go_wp2_with fail
        all_goals
          go_ret
          exact ⟨ret_int (by rw [show entErr ahead E = 2 from by simp only [entErr, F1.out, F2.out, F3.out]; simp]; rfl), he.out.bel⟩
      by_cases h3 : 16 < E.points.length
      · have F3 := Lib.hid (show topW E = true from decide_eq_true (by omega))
        go_wp2_with fail
        all_goals
          go_ret
          exact ⟨ret_int (by rw [show entErr ahead E = 2 from by simp only [entErr, F1.out, F2.out, F3.out]; simp]; rfl), he.out.bel⟩
      by_cases h4 : 8 < E.gaps.length
      · have F3 := Lib.hid (show topW E = true from decide_eq_true (by omega))
        go_wp2_with fail
        all_goals
          go_ret
          exact ⟨ret_int (by rw [show entErr ahead E = 2 from by simp only [entErr, F1.out, F2.out, F3.out]; simp]; rfl), he.out.bel⟩
      by_cases h5 : 64 < E.edges.length
      · have F3 := Lib.hid (show topW E = true from decide_eq_true (by omega))
        go_wp2_with fail
        all_goals
          go_ret
          exact ⟨ret_int (by rw [show entErr ahead E = 2 from by simp only [entErr, F1.out, F2.out, F3.out]; simp]; rfl), he.out.bel⟩
      have F3 := Lib.hid (show topW E = false from decide_eq_false (by omega))
      by_cases h6 : 16 < E.first.length
      · have F4 := Lib.hid (show fstW E = true from decide_eq_true (by omega))
        go_wp2_with fail
        all_goals
          go_ret
          exact ⟨ret_int (by rw [show entErr ahead E = 2 from by simp only [entErr, F1.out, F2.out, F3.out, F4.out]; simp]; rfl), he.out.bel⟩
      by_cases h7 : 16 < E.last.length
      · have F4 := Lib.hid (show fstW E = true from decide_eq_true (by omega))
        go_wp2_with fail
        all_goals
          go_ret
          exact ⟨ret_int (by rw [show entErr ahead E = 2 from by simp only [entErr, F1.out, F2.out, F3.out, F4.out]; simp]; rfl), he.out.bel⟩
      have F4 := Lib.hid (show fstW E = false from decide_eq_false (by omega))
      go_wp2_with fail
      clear c0 c1 c2 c3 c4 c5 c6 c7 c8 c9
      refine ee_pts R E _ _ _ _ _ _ _ _ w _ hE he _ ?_ ?_ _ _ _ _ _ _ _ _ _ _ _ _ _ _ _ _ _ _ _ _ _ _ _ _ _ _ _ _ _ _ _ _ _ _ _ _ _ _ _ _ _ _ _ _ _ _ _ _ _ _ _ _ _ _ _ _ _ _ _ _ _ _ _ _ _ _ _ _ _ _ _ _ _ _ _ _ _ _ _ _ _ _ _ _ _ _ _ _ _ _ _ _ _ _ _ _ _ _ _ _ _ _ _ _ _ _ _ _ _ _ _ _ _ _ _ _ _ _ _ _ _ _ _ _ _ _ _ _ _ _ _ _ _ _ _ _ _ _ _ _ _ _ _ _ _ _ _ _ _ _ _ _ _ _ _ _ _ _ _ _ _ _ _ _ _ _ _ _ _ _ _ _ _ _ _ _ _ _ _ _ _ _ _ _ _ _ _ _ _ _ _ _ _ _ _ _ _ _ _ _ _ _ _ _ _ _ _ _ _ _ _ _ _ _ _ _ _
      · intro y0 y1 y2 y3 y5 y6 y7 y8 y9 y10 y11 y12 y13 y14 y15 y16 y17 y18 y19 y20 y21 y22 y23 y24 y25 y26 y27 y28 y29 y30 y31 y32 y33 y34 y35 y36 y37 y38 y39 y40 y41 y42 y43 y44 y45 y46 y47 y48 y49 y50 y51 y52 y53 y54 y55 y56 y57 y58 y59 y60 y61 y62 y63 y64 y65 y66 y67 y68 y69 y70 y71 y72 y73 y74 y75 y76 y77 y78 y79 y80 y81 y82 y83 y84 y85 y86 y87 y88 y89 y90 y91 y92 y93 y94 y95 y96 y97 y98 y99 y100 y101 y102 y103 y104 y105 y106 y107 y108 y109 y110 y111 y112 y113 y114 y115 y116 y117 y118 y119 y120 y121 y122 y123 y124 y125 y126 y127 y128 y129 y130 y131 y132 y133 y134 y135 y136 y137 y138 y139 y140 y141 y142 y143 y144 y145 y146 y147 y148 y149 y150 y151 y152 y153 y154 y155 y156 y157 y158 y159 y160 y161 y162 y163 y164 y165 y166 y167 y168 y169 y170 y171 y172 y173 y174 y175 y176 y177 y178 y179 y180 y181 y182 y183 y184 y185 y186 y187 y188 y189 y190 y191 y192 y193 y194 y195 y196 y197 y198 y199 y200 y201 y202 y203 y204 y205 y206 y207 y208 y209 y210 y211 y212 y213 y214 y215 y216 y217 y218 y219 y220 y221 w3 F5 b3
        go_wp2_with fail
        go_ret
        exact ⟨ret_int (by rw [show entErr ahead E = ptsE E.points from by simp [entErr, F1.out, F2.out, F3.out, F4.out, F5]]), b3⟩
      intro y2 y3 y6 y7 y8 y9 y10 y11 y12 y13 y14 y15 y16 y17 y18 y19 y20 y21 y22 y23 y24 y25 y26 y27 y28 y29 y30 y31 y32 y33 y34 y35 y36 y37 y38 y39 y40 y41 y42 y43 y44 y45 y46 y47 y48 y49 y50 y51 y52 y53 y54 y55 y56 y57 y58 y59 y60 y61 y62 y63 y64 y65 y66 y67 y68 y69 y70 y71 y72 y73 y74 y75 y76 y77 y78 y79 y80 y81 y82 y83 y84 y85 y86 y87 y88 y89 y90 y91 y92 y93 y94 y95 y96 y97 y98 y99 y100 y101 y102 y103 y104 y105 y106 y107 y108 y109 y110 y111 y112 y113 y114 y115 y116 y117 y118 y119 y120 y121 y122 y123 y124 y125 y126 y127 y128 y129 y130 y131 y132 y133 y134 y135 y136 y137 y138 y139 y140 y141 y142 y143 y144 y145 y146 y147 y148 y149 y150 y151 y152 y153 y154 y155 y156 y157 y158 y159 y160 y161 y162 y163 y164 y165 y166 y167 y168 y169 y170 y171 y172 y173 y174 y175 y176 y177 y178 y179 y180 y181 y182 y183 y184 y185 y186 y187 y188 y189 y190 y191 y192 y193 y194 y195 y196 y197 y198 y199 y200 y201 y202 y203 y204 y205 y206 y207 y208 y209 y210 y211 y212 y213 y214 y215 y216 y217 y218 y219 y220 y221 w3 f5 he3
      have F5 := Lib.hid f5
      clear f5 he
      have he := Lib.hid he3
      clear he3
      obtain ⟨c0, c1, c2, c3, c4, c5, c6, c7, c8, c9⟩ := he.out.cells
      have hu : ((E.points.length : Int)) ≤ 16 := by omega
      by_cases h8 : E.count < -1
      · have F6 := Lib.hid (show cntW E = true from decide_eq_true (.inl h8))
        go_wp2_with fail
        all_goals
          go_ret
          exact ⟨ret_int (by rw [show entErr ahead E = 5 from by simp only [entErr, F1.out, F2.out, F3.out, F4.out, F5.out, F6.out]; simp]; rfl), he.out.bel⟩
      by_cases h9 : (E.points.length : Int) ≤ E.count
      · have F6 := Lib.hid (show cntW E = true from decide_eq_true (.inr h9))
        go_wp2_with fail
        all_goals
          go_ret
          exact ⟨ret_int (by rw [show entErr ahead E = 5 from by simp only [entErr, F1.out, F2.out, F3.out, F4.out, F5.out, F6.out]; simp]; rfl), he.out.bel⟩
      have F6 := Lib.hid (show cntW E = false from decide_eq_false (by omega))
      go_wp2_with fail
      refine (strangers_any R E _ _ _ _ _ w3 he.out.sl (below_lt2 hR he.out.bel) hE).mono ?_
      rintro e w4 ⟨rfl, b4⟩
      have he4 := Lib.hid (he.out.below b4)
      clear c0 c1 c2 c3 c4 c5 c6 c7 c8 c9 b4 he
      have he := he4
      clear he4
      obtain ⟨c0, c1, c2, c3, c4, c5, c6, c7, c8, c9⟩ := he.out.cells
      cases hst : strangeB E with
      | true =>
        have F7 := Lib.hid hst
        clear hst
        go_wp2_with fail
        all_goals
          go_ret
          exact ⟨ret_int (by rw [show entErr ahead E = 5 from by simp only [entErr, F1.out, F2.out, F3.out, F4.out, F5.out, F6.out, F7.out]; simp]; rfl), he.out.bel⟩
      | false =>
      have F7 := Lib.hid hst
      clear hst
      go_upto_region 27 with fail
      go_cut [124] (fun s124 wx => s124 = .bool (cmmW E) ∧ Hid (EB w R E (.slice pa E.points.length pc) (.slice ga E.gaps.length gc) (.slice ea E.edges.length ec) (.slice fa E.first.length fc) (.slice la E.last.length lc) w.heap.size wx))
      case first =>
        by_cases h10 : E.count = -1
        · have h10b : (E.count == -1) = true := by simp [h10]
          by_cases h11 : E.mn = 0
          · have h11b : (E.mn != 0) = false := by simp [h11]
            by_cases h12 : E.mx = 0
            · have h12b : (E.mx != 0) = false := by simp [h12]
              have G := Lib.hid (show cmmW E = false from decide_eq_false (by omega))
              clear h10 h11 h12
              go_wp2_with fail
              all_goals
                go_meet
                exact ⟨by rw [G.out]; try rfl, he⟩
            · have h12b : (E.mx != 0) = true := by simp [h12]
              have G := Lib.hid (show cmmW E = true from decide_eq_true (by omega))
              clear h10 h11
              go_wp2_with fail
              all_goals
                go_meet
                exact ⟨by rw [G.out]; try rfl, he⟩
          · have h11b : (E.mn != 0) = true := by simp [h11]
            have G := Lib.hid (show cmmW E = true from decide_eq_true (by omega))
            clear h10
            go_wp2_with fail
            all_goals
              go_meet
              exact ⟨by rw [G.out]; try rfl, he⟩
        · have h10b : (E.count == -1) = false := by simp [h10]
          have G := Lib.hid (show cmmW E = false from decide_eq_false (by omega))
          go_wp2_with fail
          all_goals
            go_meet
            exact ⟨by rw [G.out]; try rfl, he⟩
      case rest =>
      clear c0 c1 c2 c3 c4 c5 c6 c7 c8 c9 he
      obtain ⟨rfl, he⟩ := hcut
      obtain ⟨c0, c1, c2, c3, c4, c5, c6, c7, c8, c9⟩ := he.out.cells
      cases hcm : cmmW E with
      | true =>
        have F8 := Lib.hid hcm
        clear hcm
        go_wp2_with fail
        all_goals
          go_ret
          exact ⟨ret_int (by rw [show entErr ahead E = 3 from by simp only [entErr, F1.out, F2.out, F3.out, F4.out, F5.out, F6.out, F7.out, F8.out]; simp]; rfl), he.out.bel⟩
      | false =>
      have F8 := Lib.hid hcm
      clear hcm
      by_cases h13 : E.mn < 0
      · have F9 := Lib.hid (show rngW E = true from decide_eq_true (.inl h13))
        go_wp2_with fail
        all_goals
          go_ret
          exact ⟨ret_int (by rw [show entErr ahead E = 2 from by simp only [entErr, F1.out, F2.out, F3.out, F4.out, F5.out, F6.out, F7.out, F8.out, F9.out]; simp]; rfl), he.out.bel⟩
      by_cases h14 : E.mx < E.mn
      · have F9 := Lib.hid (show rngW E = true from decide_eq_true (.inr (.inl h14)))
        go_wp2_with fail
        all_goals
          go_ret
          exact ⟨ret_int (by rw [show entErr ahead E = 2 from by simp only [entErr, F1.out, F2.out, F3.out, F4.out, F5.out, F6.out, F7.out, F8.out, F9.out]; simp]; rfl), he.out.bel⟩
      by_cases h15 : 1000 ≤ E.mx
      · have F9 := Lib.hid (show rngW E = true from decide_eq_true (.inr (.inr h15)))
        go_wp2_with fail
        all_goals
          go_ret
          exact ⟨ret_int (by rw [show entErr ahead E = 2 from by simp only [entErr, F1.out, F2.out, F3.out, F4.out, F5.out, F6.out, F7.out, F8.out, F9.out]; simp]; rfl), he.out.bel⟩
      have F9 := Lib.hid (show rngW E = false from decide_eq_false (by omega))
      go_wp2_with fail
      clear c0 c1 c2 c3 c4 c5 c6 c7 c8 c9
      refine ee_gaps R E _ _ _ _ _ _ _ _ w _ hE he _ ?_ ?_ _ _ _ _ _ _ _ _ _ _ _ _ _ _ _ _ _ _ _ _ _ _ _ _ _ _ _ _ _ _ _ _ _ _ _ _ _ _ _ _ _ _ _ _ _ _ _ _ _ _ _ _ _ _ _ _ _ _ _ _ _ _ _ _ _ _ _ _ _ _ _ _ _ _ _ _ _ _ _ _ _ _ _ _ _ _ _ _ _ _ _ _ _ _ _ _ _ _ _ _ _ _ _ _ _ _ _ _ _ _ _ _ _ _ _ _ _ _ _ _ _ _ _ _ _ _ _ _ _ _ _ _ _ _ _ _ _ _ _ _ _ _ _ _ _ _ _ _ _ _ _ _ _ _ _ _ _ _ _ _ _ _ _ _ _ _ _ _ _ _ _ _ _ _ _ _ _ _ _ _ _ _ _ _ _ _ _ _ _ _ _ _ _ _ _ _ _ _ _ _ _ _ _ _ _ _ _ _ _ _ _ _ _ _ _ _ _
      · intro y0 y1 y2 y3 y5 y6 y7 y8 y9 y10 y11 y12 y13 y14 y15 y16 y17 y18 y19 y20 y21 y22 y23 y24 y25 y26 y27 y28 y29 y30 y31 y32 y33 y34 y35 y36 y37 y38 y39 y40 y41 y42 y43 y44 y45 y46 y47 y48 y49 y50 y51 y52 y53 y54 y55 y56 y57 y58 y59 y60 y61 y62 y63 y64 y65 y66 y67 y68 y69 y70 y71 y72 y73 y74 y75 y76 y77 y78 y79 y80 y81 y82 y83 y84 y85 y86 y87 y88 y89 y90 y91 y92 y93 y94 y95 y96 y97 y98 y99 y100 y101 y102 y103 y104 y105 y106 y107 y108 y109 y110 y111 y112 y113 y114 y115 y116 y117 y118 y119 y120 y121 y122 y123 y124 y125 y126 y127 y128 y129 y130 y131 y132 y133 y134 y135 y136 y137 y138 y139 y140 y141 y142 y143 y144 y145 y146 y147 y148 y149 y150 y151 y152 y153 y154 y155 y156 y157 y158 y159 y160 y161 y162 y163 y164 y165 y166 y167 y168 y169 y170 y171 y172 y173 y174 y175 y176 y177 y178 y179 y180 y181 y182 y183 y184 y185 y186 y187 y188 y189 y190 y191 y192 y193 y194 y195 y196 y197 y198 y199 y200 y201 y202 y203 y204 y205 y206 y207 y208 y209 y210 y211 y212 y213 y214 y215 y216 y217 y218 y219 y220 y221 w5 F10 b5
        go_wp2_with fail
        go_ret
        exact ⟨ret_int (by rw [show entErr ahead E = 2 from by simp only [entErr, F1.out, F2.out, F3.out, F4.out, F5.out, F6.out, F7.out, F8.out, F9.out, F10]; simp]; rfl), b5⟩
      intro y2 y3 y6 y7 y8 y9 y10 y11 y12 y13 y14 y15 y16 y17 y18 y19 y20 y21 y22 y23 y24 y25 y26 y27 y28 y29 y30 y31 y32 y33 y34 y35 y36 y37 y38 y39 y40 y41 y42 y43 y44 y45 y46 y47 y48 y49 y50 y51 y52 y53 y54 y55 y56 y57 y58 y59 y60 y61 y62 y63 y64 y65 y66 y67 y68 y69 y70 y71 y72 y73 y74 y75 y76 y77 y78 y79 y80 y81 y82 y83 y84 y85 y86 y87 y88 y89 y90 y91 y92 y93 y94 y95 y96 y97 y98 y99 y100 y101 y102 y103 y104 y105 y106 y107 y108 y109 y110 y111 y112 y113 y114 y115 y116 y117 y118 y119 y120 y121 y122 y123 y124 y125 y126 y127 y128 y129 y130 y131 y132 y133 y134 y135 y136 y137 y138 y139 y140 y141 y142 y143 y144 y145 y146 y147 y148 y149 y150 y151 y152 y153 y154 y155 y156 y157 y158 y159 y160 y161 y162 y163 y164 y165 y166 y167 y168 y169 y170 y171 y172 y173 y174 y175 y176 y177 y178 y179 y180 y181 y182 y183 y184 y185 y186 y187 y188 y189 y190 y191 y192 y193 y194 y195 y196 y197 y198 y199 y200 y201 y202 y203 y204 y205 y206 y207 y208 y209 y210 y211 y212 y213 y214 y215 y216 y217 y218 y219 y220 y221 w5 f10 he5
      have F10 := Lib.hid f10
      clear f10 he
      have he := Lib.hid he5
      clear he5
      go_wp2_with fail
      refine ee_edges R E _ _ _ _ _ _ _ _ w _ hE he _ ?_ ?_ _ _ _ _ _ _ _ _ _ _ _ _ _ _ _ _ _ _ _ _ _ _ _ _ _ _ _ _ _ _ _ _ _ _ _ _ _ _ _ _ _ _ _ _ _ _ _ _ _ _ _ _ _ _ _ _ _ _ _ _ _ _ _ _ _ _ _ _ _ _ _ _ _ _ _ _ _ _ _ _ _ _ _ _ _ _ _ _ _ _ _ _ _ _ _ _ _ _ _ _ _ _ _ _ _ _ _ _ _ _ _ _ _ _ _ _ _ _ _ _ _ _ _ _ _ _ _ _ _ _ _ _ _ _ _ _ _ _ _ _ _ _ _ _ _ _ _ _ _ _ _ _ _ _ _ _ _ _ _ _ _ _ _ _ _ _ _ _ _ _ _ _ _ _ _ _ _ _ _ _ _ _ _ _ _ _ _ _ _ _ _ _ _ _ _ _ _ _ _ _ _ _ _ _ _ _ _ _ _ _ _ _ _ _ _ _ _
      · intro y0 y1 y2 y3 y5 y6 y7 y8 y9 y10 y11 y12 y13 y14 y15 y16 y17 y18 y19 y20 y21 y22 y23 y24 y25 y26 y27 y28 y29 y30 y31 y32 y33 y34 y35 y36 y37 y38 y39 y40 y41 y42 y43 y44 y45 y46 y47 y48 y49 y50 y51 y52 y53 y54 y55 y56 y57 y58 y59 y60 y61 y62 y63 y64 y65 y66 y67 y68 y69 y70 y71 y72 y73 y74 y75 y76 y77 y78 y79 y80 y81 y82 y83 y84 y85 y86 y87 y88 y89 y90 y91 y92 y93 y94 y95 y96 y97 y98 y99 y100 y101 y102 y103 y104 y105 y106 y107 y108 y109 y110 y111 y112 y113 y114 y115 y116 y117 y118 y119 y120 y121 y122 y123 y124 y125 y126 y127 y128 y129 y130 y131 y132 y133 y134 y135 y136 y137 y138 y139 y140 y141 y142 y143 y144 y145 y146 y147 y148 y149 y150 y151 y152 y153 y154 y155 y156 y157 y158 y159 y160 y161 y162 y163 y164 y165 y166 y167 y168 y169 y170 y171 y172 y173 y174 y175 y176 y177 y178 y179 y180 y181 y182 y183 y184 y185 y186 y187 y188 y189 y190 y191 y192 y193 y194 y195 y196 y197 y198 y199 y200 y201 y202 y203 y204 y205 y206 y207 y208 y209 y210 y211 y212 y213 y214 y215 y216 y217 y218 y219 y220 y221 w6 F11 b6
        go_wp2_with fail
        go_ret
        exact ⟨ret_int (by rw [show entErr ahead E = 6 from by simp only [entErr, F1.out, F2.out, F3.out, F4.out, F5.out, F6.out, F7.out, F8.out, F9.out, F10.out, F11]; simp]; rfl), b6⟩
      intro y2 y3 y6 y7 y8 y9 y10 y11 y12 y13 y14 y15 y16 y17 y18 y19 y20 y21 y22 y23 y24 y25 y26 y27 y28 y29 y30 y31 y32 y33 y34 y35 y36 y37 y38 y39 y40 y41 y42 y43 y44 y45 y46 y47 y48 y49 y50 y51 y52 y53 y54 y55 y56 y57 y58 y59 y60 y61 y62 y63 y64 y65 y66 y67 y68 y69 y70 y71 y72 y73 y74 y75 y76 y77 y78 y79 y80 y81 y82 y83 y84 y85 y86 y87 y88 y89 y90 y91 y92 y93 y94 y95 y96 y97 y98 y99 y100 y101 y102 y103 y104 y105 y106 y107 y108 y109 y110 y111 y112 y113 y114 y115 y116 y117 y118 y119 y120 y121 y122 y123 y124 y125 y126 y127 y128 y129 y130 y131 y132 y133 y134 y135 y136 y137 y138 y139 y140 y141 y142 y143 y144 y145 y146 y147 y148 y149 y150 y151 y152 y153 y154 y155 y156 y157 y158 y159 y160 y161 y162 y163 y164 y165 y166 y167 y168 y169 y170 y171 y172 y173 y174 y175 y176 y177 y178 y179 y180 y181 y182 y183 y184 y185 y186 y187 y188 y189 y190 y191 y192 y193 y194 y195 y196 y197 y198 y199 y200 y201 y202 y203 y204 y205 y206 y207 y208 y209 y210 y211 y212 y213 y214 y215 y216 y217 y218 y219 y220 y221 w6 f11 he6
      have F11 := Lib.hid f11
      clear f11 he
      have he := Lib.hid he6
      clear he6
      obtain ⟨c0, c1, c2, c3, c4, c5, c6, c7, c8, c9⟩ := he.out.cells
      go_wp2_with fail
      refine (twice_any R E.first _ w6 he.out.sl.f (by have := hE.f; omega)).mono ?_
      rintro e w7 ⟨rfl, nq, rfl⟩
      have he7 := Lib.hid (he.out.keep (keep_drewN nq (Keep.refl (fun _ => False) _)) (fun _ h _ => h.elim))
      clear c0 c1 c2 c3 c4 c5 c6 c7 c8 c9 he
      have he := he7
      clear he7
      generalize World.drewN _ _ = w7 at he ⊢
      obtain ⟨c0, c1, c2, c3, c4, c5, c6, c7, c8, c9⟩ := he.out.cells
      cases htw : twiceB E.first with
      | true =>
        have F12 := Lib.hid htw
        clear htw
        go_wp2_with fail
        all_goals
          go_ret
          exact ⟨ret_int (by rw [show entErr ahead E = 6 from by simp only [entErr, F1.out, F2.out, F3.out, F4.out, F5.out, F6.out, F7.out, F8.out, F9.out, F10.out, F11.out, F12.out]; simp]; rfl), he.out.bel⟩
      | false =>
      have F12 := Lib.hid htw
      clear htw
      go_wp2_with fail
      refine (twice_any R E.last _ w7 he.out.sl.l (by have := hE.l; omega)).mono ?_
      rintro e w8 ⟨rfl, nq2, rfl⟩
      have he8 := Lib.hid (he.out.keep (keep_drewN nq2 (Keep.refl (fun _ => False) _)) (fun _ h _ => h.elim))
      clear c0 c1 c2 c3 c4 c5 c6 c7 c8 c9 he
      have he := he8
      clear he8
      generalize World.drewN _ _ = w8 at he ⊢
      obtain ⟨c0, c1, c2, c3, c4, c5, c6, c7, c8, c9⟩ := he.out.cells
      cases htl : twiceB E.last with
      | true =>
        have F13 := Lib.hid htl
        clear htl
        go_wp2_with fail
        all_goals
          go_ret
          exact ⟨ret_int (by rw [show entErr ahead E = 6 from by simp only [entErr, F1.out, F2.out, F3.out, F4.out, F5.out, F6.out, F7.out, F8.out, F9.out, F10.out, F11.out, F12.out, F13.out]; simp]; rfl), he.out.bel⟩
      | false =>
      have F13 := Lib.hid htl
      clear htl
      by_cases h16 : 0 < E.edges.length
      · have F15 := Lib.hid (show s2W E = false from decide_eq_false (by omega))
        have h16b : ((E.edges.length : Int) == 0) = false := beq_eq_false_iff_ne.2 (by omega)
        by_cases h17 : E.first.length = 0
        · have h17b : ((E.first.length : Int) == 0) = true := by simp [h17]
          have F14 := Lib.hid (show s1W E = true from decide_eq_true ⟨h16, h17⟩)
          have H17 := Lib.hid h17
          clear h17
          go_wp2_with fail
          all_goals
            go_ret
            exact ⟨ret_int (by rw [show entErr ahead E = 3 from by simp only [entErr, F1.out, F2.out, F3.out, F4.out, F5.out, F6.out, F7.out, F8.out, F9.out, F10.out, F11.out, F12.out, F13.out, F14.out]; simp]; rfl), he.out.bel⟩
        · have h17b : ((E.first.length : Int) == 0) = false := by simp [h17]
          have F14 := Lib.hid (show s1W E = false from decide_eq_false (fun h => h17 h.2))
          go_wp2_with fail
          all_goals
            go_ret
            exact ⟨ret_int (by rw [show entErr ahead E = 0 from by simp only [entErr, F1.out, F2.out, F3.out, F4.out, F5.out, F6.out, F7.out, F8.out, F9.out, F10.out, F11.out, F12.out, F13.out, F14.out, F15.out]; simp]; rfl), he.out.bel⟩
      · have F14 := Lib.hid (show s1W E = false from decide_eq_false (fun h => h16 h.1))
        have h16b : ((E.edges.length : Int) == 0) = true := beq_iff_eq.2 (by omega)
        by_cases h18 : 0 < E.first.length + E.last.length
        · have F15 := Lib.hid (show s2W E = true from decide_eq_true (by omega))
          have h18b : (0 : Int) < (E.first.length : Int) + E.last.length := by omega
          go_wp2_with fail
          all_goals
            go_ret
            exact ⟨ret_int (by rw [show entErr ahead E = 3 from by simp only [entErr, F1.out, F2.out, F3.out, F4.out, F5.out, F6.out, F7.out, F8.out, F9.out, F10.out, F11.out, F12.out, F13.out, F14.out, F15.out]; simp]; rfl), he.out.bel⟩
        · have F15 := Lib.hid (show s2W E = false from decide_eq_false (by omega))
          have h18b : ¬ (0 : Int) < (E.first.length : Int) + E.last.length := by omega
          go_wp2_with fail
          all_goals
            go_ret
            exact ⟨ret_int (by rw [show entErr ahead E = 0 from by simp only [entErr, F1.out, F2.out, F3.out, F4.out, F5.out, F6.out, F7.out, F8.out, F9.out, F10.out, F11.out, F12.out, F13.out, F14.out, F15.out]; simp]; rfl), he.out.bel⟩
end Go.Proofs.YtakjbjokekbmbaaGreatDoor
