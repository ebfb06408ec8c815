/- RingActs: both rings side by side, an act's box beside them; their steps. -/
import Derived.Test.YtkhcepdeppmofaaDoorRingQ
import Derived.Test.YtkhcepdeppmofaaDoorApps
namespace Go.Proofs.YtkhcepdeppmofaaDoor
open Go.RowKit
set_option linter.unusedVariables false

/-- Both rings, and an act's box. -/
structure RB (B : Nat) (sa : Nat → Addr) (w0 : World) (rg c rb cap : Nat) (m : CM) (dead : Bool) (L : List RecV) (lv : Value) (rr r : Nat) (m2 : CM) (dead2 : Bool) (L2 : List RecV) (lv2 : Value) (ab : Nat) (a : AppV) (w : World) : Prop where
  ra : RA B sa w0 rg c rb cap m dead L lv rr r m2 dead2 L2 lv2 w
  se : Sents B sa w
  act : w.heap[ab]? = some (.cells (appCells a).toArray 85)
  sep : ab ≠ c ∧ ab ≠ rb ∧ ab ≠ rg ∧ ab ≠ rr ∧ ab ≠ r ∧ w0.heap.size ≤ ab
  offa : lv2.ownBlock ≠ some ab
section
variable {B : Nat} {sa : Nat → Addr} {w0 w w' : World} {rg c rb cap : Nat} {m m' : CM} {dead dead' : Bool} {L L' : List RecV} {lv lv' : Value} {rr r : Nat} {m2 m2' : CM} {dead2 dead2' : Bool} {L2 L2' : List RecV} {lv2 lv2' : Value} {ab : Nat} {a : AppV}
theorem RB.below (h : RB B sa w0 rg c rb cap m dead L lv rr r m2 dead2 L2 lv2 ab a w) (b : Below w.heap.size w w') : RB B sa w0 rg c rb cap m dead L lv rr r m2 dead2 L2 lv2 ab a w' :=
  ⟨h.ra.below b, h.se.below b, below_get b h.act (lt_of_get h.act), h.sep, h.offa⟩
theorem RB.drew (h : RB B sa w0 rg c rb cap m dead L lv rr r m2 dead2 L2 lv2 ab a w) : RB B sa w0 rg c rb cap m dead L lv rr r m2 dead2 L2 lv2 ab a w.drew := h.below ((Below.refl _ _).drew)
theorem RB.drewN (h : RB B sa w0 rg c rb cap m dead L lv rr r m2 dead2 L2 lv2 ab a w) (n : Nat) : RB B sa w0 rg c rb cap m dead L lv rr r m2 dead2 L2 lv2 ab a (w.drewN n) := h.below (below_drewN' n (Below.refl _ _))
theorem Sents.keepB {S : Nat → Prop} (h : Sents B sa w) (k : Keep S w w') (hS : ∀ b, S b → B ≤ b) : Sents B sa w' := h.keep k hS
/-- The program's Append. -/
theorem RB.prog (h : RB B sa w0 rg c rb cap m dead L lv rr r m2 dead2 L2 lv2 ab a w) (h' : RSt B sa w0 rg c rb cap m' dead' L' lv' w') (k : Keep (fun b => b = c ∨ b = rb ∨ b = rg ∨ w.heap.size ≤ b) w w') (hn : lv' = lv ∨ NewV w w' lv') : RB B sa w0 rg c rb cap m' dead' L' lv' rr r m2 dead2 L2 lv2 ab a w' := by
  obtain ⟨s1, s2, s3, s4, s5, s6⟩ := h.sep
  have hl := lt_of_get h.act
  have ht := h.se.r.top
  have hl2 := h.ra.st.lay
  exact ⟨h.ra.prog h' k hn, h.se.keep k (fun b hb => by omega), k.get h.act (by omega), h.sep, h.offa⟩
/-- The document's Append. -/
theorem RB.ref (h : RB B sa w0 rg c rb cap m dead L lv rr r m2 dead2 L2 lv2 ab a w) (h' : RRing w0 rr r m2' dead2' L2' lv2' w') (k : RStep2 rr r lv2 lv2' w w') : RB B sa w0 rg c rb cap m dead L lv rr r m2' dead2' L2' lv2' ab a w' := by
  obtain ⟨s1, s2, s3, s4, s5, s6⟩ := h.sep
  have hl := lt_of_get h.act
  have ht := h.se.r.top
  have hl2 := h.ra.st.lay
  have hlo := h.ra.rf.lo
  refine ⟨h.ra.ref h' k, h.se.keep k.keep (fun b hb => ?_), k.keep.get h.act ?_, h.sep, ?_⟩
  · rcases hb with rfl | rfl | hb | hb
    · omega
    · omega
    · have := (h.ra.rf.own.lt b hb).1; omega
    · omega
  · rintro (e | e | e | e)
    · exact s4 e
    · exact s5 e
    · exact h.offa e
    · omega
  · rcases k.lv with e | e
    · rw [e]; exact h.offa
    · intro e2
      have := e ab e2
      omega
/-- The program's cells alone are written. -/
theorem RB.cells (h : RB B sa w0 rg c rb cap m dead L lv rr r m2 dead2 L2 lv2 ab a w) (k : Keep (· = c) w w') (h' : CellsAt w' c rb (some ⟨rb, 0, none⟩) cap m') : RB B sa w0 rg c rb cap m' dead L lv rr r m2 dead2 L2 lv2 ab a w' :=
  h.prog (h.ra.st.write (k.mono (fun _ _ h => .inl h)) h') (k.mono (fun _ _ h => .inl h)) (.inl rfl)
/-- The document's cells alone are written. -/
theorem RB.rcells (h : RB B sa w0 rg c rb cap m dead L lv rr r m2 dead2 L2 lv2 ab a w) (k : Keep (· = r) w w') (h' : RC w' r m2') : RB B sa w0 rg c rb cap m dead L lv rr r m2' dead2 L2 lv2 ab a w' :=
  h.ref (h.ra.rf.write k h') ⟨k.mono (fun _ _ h => .inr (.inl h)), .inl rfl⟩
theorem RSt.cr (h : RSt B sa w0 rg c rb cap m dead L lv w) : CR B sa w0 c rb cap m w := ⟨h.mem, h.se, h.bel, ⟨h.lay.1, h.lay.2.1, h.lay.2.2.2.1⟩⟩
/-- The program's ring is opened anew. -/
theorem RB.open1 {rg' : Nat} (h : RB B sa w0 rg c rb cap m dead L lv rr r m2 dead2 L2 lv2 ab a w) (h' : RSt B sa w0 rg' c rb cap m dead' L' lv' w') (o : OpenNew w w' rg' lv') : RB B sa w0 rg' c rb cap m dead' L' lv' rr r m2 dead2 L2 lv2 ab a w' := by
  obtain ⟨s1, s2, s3, s4, s5, s6⟩ := h.sep
  have hl := lt_of_get h.act
  have l1 := lt_of_get h.ra.rf.box
  have l2 := h.ra.rf.mem.lt
  have ho := o.rg
  obtain ⟨a1, a2, a3⟩ := h.ra.ne1
  obtain ⟨a4, a5, a6⟩ := h.ra.ne2
  refine ⟨⟨h', h.ra.rf.below o.bel, ⟨by omega, a2, a3⟩, ⟨by omega, a5, a6⟩, fun b hb => ?_, fun b hb => ?_, fun b hb => (o.lv b hb).2⟩, h.se.below o.bel, below_get o.bel h.act hl, ⟨s1, s2, by omega, s4, s5, s6⟩, h.offa⟩
  · have := h.ra.off2 b hb
    have := (h.ra.rf.own.lt b hb).2
    omega
  · have h1 := o.lv b hb
    exact ⟨by omega, by omega, fun e => by have := (h.ra.rf.own.lt b e).2; omega⟩
/-- The document's ring is made anew. -/
theorem RB.open2 {rr' : Nat} (h : RB B sa w0 rg c rb cap m dead L lv rr r m2 dead2 L2 lv2 ab a w) (b : Below w.heap.size w w') (hr : w.heap.size ≤ rr') (hb : w'.heap[rr']? = some (rringC r lv2' false)) (ho : OwnAt w' w.heap.size 60 4 lv2' L2'.length (L2'.flatMap recCells)) (hne : ∀ b, lv2'.ownBlock = some b → b ≠ rr') : RB B sa w0 rg c rb cap m dead L lv rr' r m2 false L2' lv2' ab a w' := by
  obtain ⟨s1, s2, s3, s4, s5, s6⟩ := h.sep
  have hl := lt_of_get h.act
  have hz := h.ra.st.bel.size
  obtain ⟨l1, l2, l3⟩ := h.ra.st.lts
  have l4 := h.ra.rf.mem.lt
  obtain ⟨a4, a5, a6⟩ := h.ra.ne2
  have hx := h.below b
  refine ⟨⟨hx.ra.st, ⟨hb, hx.ra.rf.mem, ?_, by omega, fun b hb => ⟨hne b hb, fun e => by have := (ho.lt b hb).1; omega⟩, ⟨by omega, h.ra.rf.lo.2⟩⟩, ⟨by omega, by omega, by omega⟩, ⟨a4, a5, a6⟩, fun b hb => ?_, fun b hb => ?_, hx.ra.lt1⟩, hx.se, hx.act, ⟨s1, s2, s3, by omega, s5, s6⟩, fun e => by have := (ho.lt ab e).1; omega⟩
  · refine ⟨ho.1, ?_⟩
    rcases ho.2 with hn | ⟨g, off, cap, cur, e1, e2, rest⟩
    · exact .inl hn
    · exact .inr ⟨g, off, cap, cur, e1, by omega, rest⟩
  · have := (ho.lt b hb).1; omega
  · have := h.ra.lt1 b hb
    exact ⟨by omega, (h.ra.off1 b hb).2.1, fun e => by have := (ho.lt b e).1; omega⟩
theorem RB.cellsA (h : RB B sa w0 rg c rb cap m dead L lv rr r m2 dead2 L2 lv2 ab a w) : w.cell? ⟨ab, 0, none⟩ = some (.int .i64 a.ent) ∧ w.cell? ⟨ab, 1, none⟩ = some (.int .i64 a.kind) ∧ w.cell? ⟨ab, 2, none⟩ = some (.int .i64 a.tick) ∧ w.cell? ⟨ab, 3, none⟩ = some (.int .i64 a.cut) ∧ w.cell? ⟨ab, 4, none⟩ = some (.bool a.boot) := by
  have := h.act
  simp [World.cell?, this, appCells]
end
/-- Behind both appends: two records' boxes beside. -/
structure RX (B : Nat) (sa : Nat → Addr) (w0 : World) (rg c rb cap : Nat) (m : CM) (dead : Bool) (L : List RecV) (lv : Value) (rr r : Nat) (lv2 : Value) (ab : Nat) (a : AppV) (x1 x2 : Nat) (x : RecV) (w : World) : Prop where
  rb : RB B sa w0 rg c rb cap m dead L lv rr r m dead L lv2 ab a w
  b1 : w.heap[x1]? = some (recC x)
  b2 : w.heap[x2]? = some (recC x)
section
variable {B : Nat} {sa : Nat → Addr} {w0 w w' : World} {rg c rb cap : Nat} {m : CM} {dead : Bool} {L : List RecV} {lv : Value} {rr r : Nat} {lv2 : Value} {ab : Nat} {a : AppV} {x1 x2 : Nat} {x : RecV}
theorem RX.below (h : RX B sa w0 rg c rb cap m dead L lv rr r lv2 ab a x1 x2 x w) (b : Below w.heap.size w w') : RX B sa w0 rg c rb cap m dead L lv rr r lv2 ab a x1 x2 x w' :=
  ⟨h.rb.below b, below_get b h.b1 (lt_of_get h.b1), below_get b h.b2 (lt_of_get h.b2)⟩
theorem RX.drew (h : RX B sa w0 rg c rb cap m dead L lv rr r lv2 ab a x1 x2 x w) : RX B sa w0 rg c rb cap m dead L lv rr r lv2 ab a x1 x2 x w.drew := h.below ((Below.refl _ _).drew)
theorem RX.drewN (h : RX B sa w0 rg c rb cap m dead L lv rr r lv2 ab a x1 x2 x w) (n : Nat) : RX B sa w0 rg c rb cap m dead L lv rr r lv2 ab a x1 x2 x (w.drewN n) := h.below (below_drewN' n (Below.refl _ _))
theorem RX.cells {s : ByteArray} (h : RX B sa w0 rg c rb cap m dead L lv rr r lv2 ab a x1 x2 x w) (hs : s = strOf m.bs) :
    (w.cell? ⟨x1, 0, none⟩ = some (.int .i64 x.seq) ∧ w.cell? ⟨x1, 1, none⟩ = some (.int .i64 x.ent) ∧ w.cell? ⟨x1, 2, none⟩ = some (.int .i64 x.kind) ∧ w.cell? ⟨x1, 3, none⟩ = some (.int .i64 x.tick)) ∧
    (w.cell? ⟨x2, 0, none⟩ = some (.int .i64 x.seq) ∧ w.cell? ⟨x2, 1, none⟩ = some (.int .i64 x.ent) ∧ w.cell? ⟨x2, 2, none⟩ = some (.int .i64 x.kind) ∧ w.cell? ⟨x2, 3, none⟩ = some (.int .i64 x.tick)) ∧
    w.cell? ⟨rr, 1, none⟩ = some lv2 ∧ w.cell? ⟨r, 0, none⟩ = some (.string s) := by
  obtain ⟨left, cuts, hrr⟩ := h.rb.ra.rf.mem
  exact ⟨four_cells h.b1, four_cells h.b2, (rring_cells h.rb.ra.rf.box).2.1, by rw [hs]; exact (rcells_cells hrr).1⟩
end
theorem putE_le (m : CM) (x : RecV) : (ringPut m x).1 ≤ 8 := by
  have hw : ∀ c n, writeE c n ≤ 8 := fun c n => by unfold writeE; split <;> decide
  have hl : ∀ o n a k, lookE o n a k ≤ 8 := fun o n a k => by unfold lookE; split; decide; split <;> decide
  unfold ringPut ringPut.put2
  repeat' split
  all_goals first | exact hw _ _ | exact hl _ _ _ _
theorem appE_le (m : CM) (L : List RecV) (dead : Bool) (e k t : Int) : (ringApp m L dead e k t).1 ≤ 11 := by
  have := putE_le m (recNew L e k t)
  unfold ringApp
  split
  · show (8 : Nat) ≤ 11; decide
  · split
    · show (2 : Nat) ≤ 11; decide
    · split
      · show (7 : Nat) ≤ 11; decide
      · split
        · show (0 : Nat) ≤ 11; decide
        · show (ringPut m (recNew L e k t)).1 ≤ 11
          omega
/-! ### What the model keeps from act to act -/
structure ROk (m : CM) (L : List RecV) (k : Int) : Prop where
  ok : CMOk m k
  len : 153 ≤ m.bs.length
  few : L.length ≤ 8
  seq : (lastZ L).seq < 4294967296
theorem runDown_mem {H : Nat → Option RecV} : ∀ (f s : Nat) (r : RecV), r ∈ runDown H f s → ∃ k, H k = some r
  | 0, s, r, h => by unfold runDown at h; cases h
  | f + 1, 0, r, h => by unfold runDown at h; cases h
  | f + 1, s + 1, r, h => by
    unfold runDown at h
    cases hh : H (s % 9) with
    | none => rw [hh] at h; cases h
    | some x =>
      rw [hh] at h
      simp only at h
      split at h
      · rw [List.mem_append, List.mem_singleton] at h
        rcases h with h | rfl
        · exact runDown_mem f s r h
        · exact ⟨_, hh⟩
      · cases h
theorem lastZ_recs (b : List UInt8) : (lastZ (recsOf b)).seq < 4294967296 := by
  unfold lastZ
  cases hl : (recsOf b).getLast? with
  | none => decide
  | some x =>
    obtain ⟨k, hk⟩ := runDown_mem _ _ _ (List.mem_of_getLast? hl)
    exact (heldAt_ok b k x hk).1.s2
theorem lastZ_drop (L : List RecV) (x : RecV) (lo : Nat) (h : lo ≤ L.length) : lastZ ((L ++ [x]).drop lo) = x := by
  unfold lastZ
  rw [List.drop_append_of_le_length h, List.getLast?_append]
  rfl
theorem ROk.mono {m : CM} {L : List RecV} {k k' : Int} (h : ROk m L k) (hk : k ≤ k') : ROk m L k' := ⟨h.ok.mono hk, h.len, h.few, h.seq⟩
theorem rok_app {m : CM} {L : List RecV} {k : Int} (h : ROk m L k) (dead : Bool) (e kd t : Int) : ROk (ringApp m L dead e kd t).2.2.1 (ringApp m L dead e kd t).2.2.2.1 (k + 18) := by
  have hm := h.mono (k' := k + 18) (by omega)
  unfold ringApp
  split
  · exact hm
  · split
    · exact hm
    · split
      · exact hm
      · rename_i hf
        obtain ⟨x, hx⟩ : ∃ x, x = recNew L e kd t := ⟨_, rfl⟩
        have hxs : x.seq = (lastZ L).seq + 1 := by rw [hx]; rfl
        rw [← hx]
        have hp := put_ok x h.ok
        have hl : (ringPut m x).2.bs.length = m.bs.length := by
          rw [ringPut_st]
          have h2 := st2_ok x (st1_ok x h.len h.ok) h.len
          unfold st3
          split
          · have := st_write (slotAt x + 16) [165] h2.len h2.ok (by have := slotAt_le x; have := h.len; rw [List.length_singleton]; omega)
            exact this.len
          · exact h2.len
        split
        · refine ⟨hp, by show 153 ≤ (ringPut m x).2.bs.length; rw [hl]; exact h.len, ?_, ?_⟩
          · show ((L ++ [x]).drop (L.length + 1 - 8)).length ≤ 8
            rw [List.length_drop, List.length_append, List.length_singleton]
            have := h.few
            omega
          · show (lastZ ((L ++ [x]).drop (L.length + 1 - 8))).seq < _
            rw [lastZ_drop _ _ _ (by omega), hxs]
            omega
        · exact ⟨hp, by show 153 ≤ (ringPut m x).2.bs.length; rw [hl]; exact h.len, h.few, h.seq⟩
theorem rok_cut {m : CM} {L : List RecV} {k n : Int} (h : ROk m L k) (hn : n ≤ 9223372036854775807) : ROk (cutM m n) L k := by
  refine ⟨cutM_ok h.ok hn, ?_, h.few, h.seq⟩
  unfold cutM
  split
  · exact h.len
  · split
    · exact h.len
    · exact h.len
theorem rok_boot {m : CM} {L : List RecV} {k : Int} (h : ROk m L k) : ROk ⟨m.bs, false, -1, m.wr⟩ (recsOf m.bs) k :=
  ⟨⟨by simp, by simp, h.ok.w0, h.ok.w1⟩, h.len, recs_le _, lastZ_recs _⟩
theorem rok_new (l : List UInt8) (h : 153 ≤ l.length) : ROk ⟨l, false, -1, 0⟩ (recsOf l) 0 :=
  ⟨⟨by simp, by simp, by simp, by simp⟩, h, recs_le _, lastZ_recs _⟩
end Go.Proofs.YtkhcepdeppmofaaDoor
