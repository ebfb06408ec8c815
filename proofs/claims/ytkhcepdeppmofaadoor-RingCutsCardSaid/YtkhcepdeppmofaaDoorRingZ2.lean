/- The document's ring: the last records. -/
import Derived.Test.YtkhcepdeppmofaaDoorRingZ
namespace Go.Proofs.YtkhcepdeppmofaaDoor
open Go.RowKit
set_option linter.unusedVariables false

/-- append(l, x...): l one's own, x any slice. -/
theorem wpList_append_slR {P : Program} {w : World} {ops : Array Oper} {rest : List Oper} {o : Oper} {a : Act} {Q : Exit → Act → World → Prop} (hgd : o.guard = none) (s x : Operand) (t : TypeId)
    (ho : o.op = .call { callee := .builtin .append, args := #[s, x], argTypes := #[t, t] })
    (base : Nat) (e : TypeId) (i : TypeInfo) (z : Value) (size bytes : Nat) (ht : P.underlying t = some (.slice e)) (hi : P.info? e = some i) (hz : i.zero = some z)
    (hsize : i.size = size) (hby : i.bytes = bytes) (hzs : z.cells.size = size) (hsz : 0 < size)
    (v : Value) (n : Nat) (xs : List Value) (hs : a.eval s = v) (hown : w.ownsRow base e size v n xs)
    (R : Nat → Prop) (y : Value) (m : Nat) (cs : List Value) (hx : a.eval x = y) (hsl : SlOf R w y size cs m) (h1 : ∀ u ∈ cs, u.oneCell' = true)
    (h63 : n + m ≤ maxLen) (hbytes : (n + m) * bytes ≤ 140737488355328) (hbase : base ≤ w.heap.size)
    (h : ∀ ao cap w', w'.ownsRow base e size (.slice ao (n + m) cap) (n + m) (xs ++ cs) → w.grownBy w' v.ownBlock → wpList P ops Q rest (a.put o.dst (.slice ao (n + m) cap)) w') :
    wpList P ops Q (o :: rest) a w := by
  obtain ⟨hl, ao, cap, rfl, hnc, hcm, hnone, hcells⟩ := hsl
  cases ao with
  | none =>
    obtain rfl := hnone rfl
    obtain rfl : m = 0 := by omega
    obtain rfl : cs = [] := List.eq_nil_of_length_eq_zero (by simpa using hl)
    refine wpList_append_own_none hgd s x t ho base e i size ht hi v n xs hs hown hx ?_
    have hg0 : w.grownBy w v.ownBlock := ⟨rfl, rfl, rfl, Nat.le_refl _, fun _ _ _ => rfl⟩
    rw [List.append_nil, Nat.add_zero] at h
    rcases hown.2 with ⟨hv, hn⟩ | ⟨g, cap, cur, hv, _⟩
    · subst hn
      have h' := h none 0 w (by rw [hv] at hown; exact hown) hg0
      rw [hv]; exact h'
    · have h' := h (some ⟨g, 0, none⟩) cap w (by rw [hv] at hown; exact hown) hg0
      rw [hv]; exact h'
  | some ad =>
    have hnews : ∀ j u, cs[j]? = some u → w.cell? (ad.add j) = some u := by
      intro j u hu
      have hj : j < cs.length := (List.getElem?_eq_some_iff.1 hu).1
      obtain ⟨b, off, ha, _, _, hc⟩ := hcells (by omega)
      obtain rfl := Option.some.inj ha
      rw [addr_add]
      exact hc j u hu
    exact wpList_append_ownS hgd s x t ho base e i z size bytes ht hi hz hsize hby hzs hsz v n xs hs hown ad m cap cs hx hl hnews h1 h63 hbytes hbase h


theorem recsOf_start (H : Nat → Option RecV) (n : Nat) : runDown H 8 (bestOf H n) = runDown H (8 - ([] : List RecV).length) (bestOf H n) ++ [] := by rw [List.append_nil]; rfl
theorem runDown_zero (H : Nat → Option RecV) (f : Nat) : runDown H f 0 = [] := by cases f <;> rfl
theorem runDown_none {H : Nat → Option RecV} {f s : Nat} (h : H (s % 9) = none) : runDown H (f + 1) (s + 1) = [] := by
  unfold runDown; rw [h]
theorem runDown_miss {H : Nat → Option RecV} {f s : Nat} {r : RecV} (h : H (s % 9) = some r) (hs : r.seq ≠ s + 1) : runDown H (f + 1) (s + 1) = [] := by
  unfold runDown; rw [h]; simp only; rw [if_neg hs]
theorem best_none {H : Nat → Option RecV} {k : Nat} (h : H k = none) : bestOf H (k + 1) = bestOf H k := by
  show max (bestOf H k) (seqAt H k) = _
  unfold seqAt; rw [h]; simp
theorem best_some {H : Nat → Option RecV} {k : Nat} {r : RecV} (h : H k = some r) : bestOf H (k + 1) = max (bestOf H k) r.seq := by
  show max (bestOf H k) (seqAt H k) = _
  unfold seqAt; rw [h]
theorem best_lt (b : List UInt8) (n : Nat) : bestOf (heldAt b) n < 4294967296 := by
  rcases best_in (heldAt b) n with h | ⟨k, x, h1, h2, h3⟩
  · omega
  · have := (heldAt_ok b k x h2).1.s2; omega
/-- An equation whose sides nobody unfolds. -/
structure Eqd {α : Type} (a b : α) : Prop where
  out : a = b
structure RHit (H : Nat → Option RecV) (T : Nat) (r : RecV) : Prop where
  held : H (T % 9) = some r
  seq : r.seq = T + 1
structure RDown (l : List UInt8) (w0 wr : World) (S : Nat) (out : List RecV) (ao : Option Addr) (cap : Nat) : Prop where
  lt : S < 4294967296
  few : out.length ≤ 8
  rest : recsOf l = runDown (heldAt l) (8 - out.length) S ++ out
  row : wr.ownsRow w0.heap.size 60 4 (.slice ao out.length cap) out.length (out.flatMap recCells)
  bel : Below w0.heap.size w0 wr
theorem rdown_more {l : List UInt8} {w0 wr w3 w5 : World} {S T : Nat} {out : List RecV} {ao a3 a5 : Option Addr} {cap k3 k5 : Nat} {r : RecV} (h : RDown l w0 wr S out ao cap) (hT : S = T + 1) (ho : out.length < 8) (hh : RHit (heldAt l) T r) (hb : Below w0.heap.size w0 w3)
    (h3 : w3.ownsRow w0.heap.size 60 4 (.slice a3 1 k3) 1 (recCells r)) (h5 : w5.ownsRow w0.heap.size 60 4 (.slice a5 (1 + out.length) k5) (1 + out.length) (recCells r ++ out.flatMap recCells)) (hg : w3.grownBy w5 (Value.slice a3 1 k3).ownBlock) : RDown l w0 w5 T (r :: out) a5 k5 := by
  have e : (r :: out).length = 1 + out.length := by simp; omega
  refine ⟨by have := h.lt; omega, by omega, ?_, ?_, hb.grown hg hb.size (fun k hk => (h3.lt k hk).1)⟩
  · rw [h.rest, hT, show 8 - out.length = (8 - (r :: out).length) + 1 from by omega, runDown_hit hh.held hh.seq, List.append_assoc]
    rfl
  · rw [e]
    exact h5
theorem own_later {w w' : World} {base : Nat} {e : TypeId} {size : Nat} {v : Value} {n : Nat} {xs : List Value} (h : w.ownsRow base e size v n xs) (b : Below w.heap.size w w') : w'.ownsRow base e size v n xs :=
  ownsRow_keep' h (Keep.of_below b) (fun _ _ h1 h2 => by omega)
set_option maxRecDepth 20000 in
set_option maxHeartbeats 2000000 in
theorem rRecordsOf_any (b : ByteArray) (hb : 153 ≤ b.size) (hb2 : b.size ≤ 100000) (w : World) :
    Calls Tryd.prog 44 #[.string b] w fun e w' => ∃ ao cap, e = .returned (.slice ao (recsOf b.data.toList).length cap) ∧ w'.ownsRow w.heap.size 60 4 (.slice ao (recsOf b.data.toList).length cap) (recsOf b.data.toList).length ((recsOf b.data.toList).flatMap recCells) ∧ Below w.heap.size w w' := by
  obtain ⟨i0, hi0, hz0, hz1, hz2⟩ := info_parts Tryd.infoRec
  obtain ⟨l, hl⟩ : ∃ l, l = b.data.toList := ⟨_, rfl⟩
  have HH : Hid (∀ (k : Nat) (W : World), k < 9 → Calls Tryd.prog 74 #[.string b, .int .i64 k] W fun e w' => e = .returned (.tuple #[recAgg (recZ (heldAt l k)), .bool (heldAt l k).isSome]) ∧ Below W.heap.size W w') := (show _ from fun k W hk => by
    rw [hl]
    exact rHeld_any k hk b (by omega) hb2 W)
  rw [← hl]
  clear hl hb hb2
  go_enter Tryd.func44, Tryd.ntmps44
  go_wp2_with fail
  go_loopw [3, 4] (fun s3 s4 wr => ∃ k : Nat, k ≤ 9 ∧ s3 = .int .i64 (bestOf (heldAt l) k : Nat) ∧ s4 = .int .i64 k ∧ Hid (Below w.heap.size w wr)) (fun _ s4 _ => 9 - (intOf s4).toNat)
  case atStart => exact ⟨0, Nat.zero_le _, rfl, rfl, Below.refl _ _⟩
  case round =>
    obtain ⟨k, hk, rfl, rfl, HB⟩ := hrel
    by_cases hlt : k < 9
    · have hlt2 : (k : Int) < 9 := by omega
      go_wp2_with fail
      refine (HH.out k _ hlt).mono ?_
      rintro e w1 ⟨rfl, b1⟩
      cases hh : heldAt l k with
      | none =>
        have HN := Lib.hid (best_none hh)
        obtain ⟨bx, _⟩ := box4 w1 (.int .i64 0) (.int .i64 0) (.int .i64 0) (.int .i64 0) 60
        have HB2 := Lib.hid (HB.out.trans ((b1.trans (bx.mono b1.size)).mono HB.out.size))
        rw [show recAgg (recZ none) = .agg #[.int .i64 0, .int .i64 0, .int .i64 0, .int .i64 0] from rfl, show (none : Option RecV).isSome = false from rfl]
        clear bx b1 hh
        go_wp2_with fail
        go_roundw
        case rel => exact ⟨k + 1, by omega, by rw [HN.out], by go_num, HB2⟩
        case measure => simp [intOf]; omega
      | some r =>
        have HN := Lib.hid (best_some hh)
        obtain ⟨bx, x0, x1, x2, x3, _⟩ := box4 w1 (.int .i64 r.seq) (.int .i64 r.ent) (.int .i64 r.kind) (.int .i64 r.tick) 60
        have HB2 := Lib.hid (HB.out.trans ((b1.trans (bx.mono b1.size)).mono HB.out.size))
        rw [show recAgg (recZ (some r)) = .agg #[.int .i64 r.seq, .int .i64 r.ent, .int .i64 r.kind, .int .i64 r.tick] from rfl, show (some r : Option RecV).isSome = true from rfl]
        obtain ⟨B, hB⟩ : ∃ B, B = bestOf (heldAt l) k := ⟨_, rfl⟩
        rw [← hB] at HN ⊢
        clear bx b1 hh hB
        go_upto_region 6 with fail
        obtain ⟨a1, ha1⟩ : ∃ a, a = w1.heap.size := ⟨_, rfl⟩
        rw [← ha1] at x0 x1 x2 x3 ⊢
        generalize w1.alloc _ = w2 at HB2 x0 x1 x2 x3 ⊢
        clear ha1
        by_cases hgt : B < r.seq
        · have HM : Hid (max B r.seq = r.seq) := (show max B r.seq = r.seq from by omega)
          go_wp2_with fail
          go_roundw
          case rel => exact ⟨k + 1, by omega, by rw [HN.out, HM.out], by go_num, HB2⟩
          case measure => simp [intOf]; omega
        · have HM : Hid (max B r.seq = B) := (show max B r.seq = B from by omega)
          go_wp2_with fail
          go_roundw
          case rel => exact ⟨k + 1, by omega, by rw [HN.out, HM.out], by go_num, HB2⟩
          case measure => simp [intOf]; omega
    · have hk9 : k = 9 := by omega
      have hk99 : 9 ≤ (k : Int) := by omega
      have HD0 : Hid (RDown l w wr (bestOf (heldAt l) k) [] none 0) := (show RDown l w wr (bestOf (heldAt l) k) [] none 0 from ⟨best_lt l k, Nat.zero_le _, by rw [hk9]; exact recsOf_start _ _, World.ownsRow_nil _ _ _ _, HB.out⟩)
      generalize bestOf (heldAt l) k = B at HD0 ⊢
      clear hk9 HB
      go_wp2_with fail
      go_loopw [7, 8] (fun s7 s8 wr2 => ∃ (S : Nat) (out : List RecV) (ao : Option Addr) (cap : Nat), s7 = .slice ao out.length cap ∧ s8 = .int .i64 S ∧ Hid (RDown l w wr2 S out ao cap)) (fun _ s8 _ => (intOf s8).toNat)
      case atStart => exact ⟨B, [], none, 0, rfl, rfl, HD0⟩
      case round =>
        obtain ⟨S, out, ao, cap, rfl, rfl, HD⟩ := hrel
        clear HD0
        have ho8 := HD.out.few
        by_cases h0 : S = 0
        · have HE : Eqd (recsOf l) out := ⟨by rw [HD.out.rest, h0, runDown_zero]; rfl⟩
          have h00 : ((S : Int) : Int) = 0 := by omega
          clear h0
          go_wp2_with fail
          go_ret
          rw [HE.out]
          exact ⟨ao, cap, rfl, HD.out.row, HD.out.bel⟩
        by_cases h8 : out.length = 8
        · have HE : Eqd (recsOf l) out := ⟨by rw [HD.out.rest, h8]; rfl⟩
          have h01 : 0 < (S : Int) := by omega
          have h88 : 8 ≤ (out.length : Int) := by omega
          clear h0 h8
          go_wp2_with fail
          go_ret
          rw [HE.out]
          exact ⟨ao, cap, rfl, HD.out.row, HD.out.bel⟩
        obtain ⟨T, hT⟩ : ∃ T, S = T + 1 := ⟨S - 1, by omega⟩
        have h01 : 0 < (S : Int) := by omega
        have h88 : (out.length : Int) < 8 := by omega
        have hlt := HD.out.lt
        have HSO := Lib.hid (rSlotOf_any S (by omega) (by omega))
        rw [show (S - 1) % 9 = T % 9 by omega] at HSO
        have HHd : Hid (∀ W, Calls Tryd.prog 74 #[.string b, .int .i64 (T % 9 : Nat)] W fun e w' => e = .returned (.tuple #[recAgg (recZ (heldAt l (T % 9))), .bool (heldAt l (T % 9)).isSome]) ∧ Below W.heap.size W w') := (show _ from fun W => HH.out (T % 9) W (Nat.mod_lt _ (by decide)))
        obtain ⟨t9, ht9⟩ : ∃ t, t = T % 9 := ⟨_, rfl⟩
        rw [← ht9] at HSO HHd
        have HT := Lib.hid hT
        have HT9 := Lib.hid ht9
        have h8' : out.length < 8 := by omega
        have HO := Lib.hid h8'
        clear hT ht9 hlt h0 h8 h8' ho8
        go_wp2_with fail
        refine (HSO.out _).mono ?_
        rintro e w' ⟨rfl, rfl⟩
        go_wp2_with fail
        refine (HHd.out _).mono ?_
        rintro e w1 ⟨rfl, b1⟩
        cases hh : heldAt l t9 with
        | none =>
          obtain ⟨bx, _⟩ := box4 w1 (.int .i64 0) (.int .i64 0) (.int .i64 0) (.int .i64 0) 60
          have b2 := b1.trans (bx.mono b1.size)
          have HE : Eqd (recsOf l) out := ⟨by
            rw [HD.out.rest, HT.out, show 8 - out.length = (7 - out.length) + 1 from by have := HO.out; omega, runDown_none (by rw [← HT9.out]; exact hh)]; rfl⟩
          have HRW := Lib.hid (own_later HD.out.row b2)
          have HBW := Lib.hid (HD.out.bel.trans (b2.mono HD.out.bel.size))
          rw [show recAgg (recZ none) = .agg #[.int .i64 0, .int .i64 0, .int .i64 0, .int .i64 0] from rfl, show (none : Option RecV).isSome = false from rfl]
          clear bx b1 b2 hh
          go_upto_region 13 with fail
          obtain ⟨a1, ha1⟩ : ∃ a, a = w1.heap.size := ⟨_, rfl⟩
          rw [← ha1]
          generalize w1.alloc _ = w2 at HRW HBW ⊢
          clear ha1
          go_wp2_with fail
          go_ret
          rw [HE.out]
          exact ⟨ao, cap, rfl, HRW.out, HBW.out⟩
        | some r =>
          obtain ⟨bx, x0, x1, x2, x3, _⟩ := box4 w1 (.int .i64 r.seq) (.int .i64 r.ent) (.int .i64 r.kind) (.int .i64 r.tick) 60
          have b2 := b1.trans (bx.mono b1.size)
          have HRW := Lib.hid (own_later HD.out.row b2)
          have HBW := Lib.hid (HD.out.bel.trans (b2.mono HD.out.bel.size))
          rw [show recAgg (recZ (some r)) = .agg #[.int .i64 r.seq, .int .i64 r.ent, .int .i64 r.kind, .int .i64 r.tick] from rfl, show (some r : Option RecV).isSome = true from rfl]
          by_cases hs : r.seq = S
          · have hsb : ((r.seq : Int) != (S : Int)) = false := by simp [hs]
            have HH2 : RHit (heldAt l) T r := ⟨by rw [← HT9.out]; exact hh, by rw [hs, HT.out]⟩
            clear bx b1 b2 hh hs
            go_upto_region 13 with fail
            obtain ⟨a1, ha1⟩ : ∃ a, a = w1.heap.size := ⟨_, rfl⟩
            rw [← ha1] at x0 x1 x2 x3 ⊢
            generalize w1.alloc _ = w2 at HRW HBW x0 x1 x2 x3 ⊢
            clear ha1
            have h63 : Hid (0 + 1 ≤ maxLen) := by show 0 + 1 ≤ maxLen; decide
            have hby : Hid ((0 + 1) * 32 ≤ 140737488355328) := by show (0 + 1) * 32 ≤ 140737488355328; decide
            have hbs : Hid (∀ o, w.heap.size ≤ (w2.alloc o).heap.size) := (show ∀ o, w.heap.size ≤ (w2.alloc o).heap.size from fun o => Nat.le_trans HBW.out.size (by simp))
            go_upto_region 16 with (at_builtin; go_must (refine wpList_append_ownS rfl (.tmp 56) (.tmp 58) 66 rfl w.heap.size 60 i0 _ 4 32 Tryd.underlying66 hi0 hz0 hz1 hz2 rfl (by decide) _ 0 [] rfl (World.ownsRow_nil _ _ _ _) ⟨w2.heap.size, 0, none⟩ 1 1 (recCells r) rfl rfl (new_cells _ (recCells r) _) (by intro u hu; simp [recCells] at hu; rcases hu with rfl | rfl | rfl | rfl <;> rfl) h63.out hby.out (hbs.out _) ?_; intro a3 k3 w3 ho3 hg3))
            have ho3' : w3.ownsRow w.heap.size 60 4 (.slice a3 1 k3) 1 (recCells r) := ho3
            have hb3 : Below w2.heap.size w2 w3 := ((Below.refl w2.heap.size w2).alloc (Nat.le_refl _) _).grown hg3 (by simp) (fun k hk => by cases hk)
            have HO3 := Lib.hid ho3'
            have HR3 := Lib.hid (slOf_owns (own_later HRW.out hb3))
            have HB3 := Lib.hid (HBW.out.trans (hb3.mono HBW.out.size))
            have hbs3 : w.heap.size ≤ w3.heap.size := HB3.out.size
            have hST : (S : Int) - 1 = (T : Int) := by have := HT.out; omega
            have h63' : Hid (1 + out.length ≤ maxLen) := (show 1 + out.length ≤ maxLen from by unfold maxLen; omega)
            have hby' : Hid ((1 + out.length) * 32 ≤ 140737488355328) := (show (1 + out.length) * 32 ≤ 140737488355328 from by omega)
            clear ho3 ho3' hg3 hb3 h63 hby hbs HRW HBW x0 x1 x2 x3
            go_wp2_with (at_builtin; go_must (refine wpList_append_slR rfl (.tmp 60) (.tmp 61) 66 rfl w.heap.size 60 i0 _ 4 32 Tryd.underlying66 hi0 hz0 hz1 hz2 rfl (by decide) _ 1 _ rfl HO3.out _ _ out.length _ rfl HR3.out (oneCell_recs out) h63'.out hby'.out hbs3 ?_; intro a5 k5 w5 ho5 hg5))
            have HD5 : Hid (RDown l w w5 T (r :: out) a5 k5) := (show RDown l w w5 T (r :: out) a5 k5 from rdown_more HD.out HT.out HO.out HH2 HB3.out HO3.out ho5 hg5)
            have hln : Hid (1 + out.length = (r :: out).length) := (show 1 + out.length = (r :: out).length from by simp; omega)
            have hTS := HT.out
            have hTL : T < S := by omega
            have hwT : wrap64 (T : Int) = (T : Int) := IntWalk.wrap64_in _ (by have := HD.out.lt; omega)
            clear ho5 hg5 hTS
            go_roundw
            case rel => exact ⟨T, r :: out, a5, k5, by rw [hln.out], by rw [hwT], HD5⟩
            case measure => rw [hwT]; simp [intOf]; exact hTL
          · have hsb : ((r.seq : Int) != (S : Int)) = true := by simp; omega
            have HE : Eqd (recsOf l) out := ⟨by
              rw [HD.out.rest, HT.out, show 8 - out.length = (7 - out.length) + 1 from by have := HO.out; omega, runDown_miss (by rw [← HT9.out]; exact hh) (by rw [← HT.out]; exact hs)]; rfl⟩
            clear bx b1 b2 hh hs
            go_upto_region 13 with fail
            obtain ⟨a1, ha1⟩ : ∃ a, a = w1.heap.size := ⟨_, rfl⟩
            rw [← ha1] at x0 x1 x2 x3 ⊢
            generalize w1.alloc _ = w2 at HRW HBW x0 x1 x2 x3 ⊢
            clear ha1
            go_wp2_with fail
            go_ret
            rw [HE.out]
            exact ⟨ao, cap, rfl, HRW.out, HBW.out⟩
end Go.Proofs.YtkhcepdeppmofaaDoor
