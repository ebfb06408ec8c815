import Derived.Test.YtikehilbmldadaaGreatDoorQ03
set_option maxHeartbeats 1000000
set_option maxRecDepth 20000
namespace Go.Proofs.YtikehilbmldadaaGreatDoor
open Go.RowKit
set_option linter.unusedVariables false
def recCells (r : RecV) : List Value := [.int .i64 r.seq, .int .i64 r.ent, .int .i64 r.kind, .int .i64 r.tick]
theorem recCells_len (r : RecV) : (recCells r).length = 4 := rfl
theorem Tryz.infoRec : (Tryz.prog.info? 147).map (fun i => (i.zero, i.size, i.bytes)) = some (some (.agg #[.int .i64 0, .int .i64 0, .int .i64 0, .int .i64 0]), 4, 32) := by kernel_rfl
theorem oneCell_recs (l : List RecV) : ∀ u ∈ l.flatMap recCells, u.oneCell' = true := oneCell_flat _ (by intro x u hu; simp [recCells] at hu; rcases hu with rfl | rfl | rfl | rfl <;> rfl) l
theorem flat_recs (l : List RecV) : (l.flatMap recCells).length = l.length * 4 := flat_len recCells 4 recCells_len l
theorem cloneRecs_any (R : Nat → Prop) (l : List RecV) (v : Value) (w : World) (h : SlOf R w v 4 (l.flatMap recCells) l.length) (hn : l.length ≤ 1000) :
    Calls Tryz.prog 95 #[v] w fun e w' => ∃ ao cap, e = .returned (.slice ao l.length cap) ∧ w'.ownsRow w.heap.size 147 4 (.slice ao l.length cap) l.length (l.flatMap recCells) ∧ Below w.heap.size w w' := by
  obtain ⟨i0, hi0, hz0, hz1, hz2⟩ := info_parts Tryz.infoRec
  have qn : ∀ (w : World) (a : Option Addr) (n c n' c' : Nat), (binOp .eql 68 (.slice a n c) (.slice none n' c')).run Tryz.prog w = .ok (.bool a.isNone) w := fun w a n c n' c' => Lib.run_eql_slice_nil w _ _ a n c n' c' Tryz.underlying68
  obtain ⟨ao, cap, rfl⟩ := h.val
  rcases h.cases with ⟨rfl, hl, rfl, hc⟩ | ⟨a, rfl⟩
  · have hl' : l = [] := List.eq_nil_of_length_eq_zero hl
    subst hl'
    clear h hl hc
    go_enter Tryz.func95, Tryz.ntmps95
    go_wp2_with fail
    go_ret
    exact ⟨none, 0, rfl, World.ownsRow_nil _ _ _ _, Below.refl _ _⟩
  · obtain ⟨h1, h2, h3⟩ := slOf_news h
    have h3' : Hid (∀ j u, (l.flatMap recCells)[j]? = some u → ∀ o, (w.alloc o).cell? (a.add j) = some u) := fun j u hu o => by
      have := h3 j u hu
      rw [World.cell?_of_block (w := w) (Below.heap_alloc _ _ _ (World.block_lt_of_cell? _ _ this))]; exact this
    have hh63 : Hid (0 + l.length ≤ maxLen) := by show 0 + l.length ≤ maxLen; omega
    have hby : Hid ((0 + l.length) * 32 ≤ 140737488355328) := by show (0 + l.length) * 32 ≤ _; omega
    have hbs : Hid (∀ o, w.heap.size ≤ (w.alloc o).heap.size) := fun o => by simp
    clear h h2 h3
    go_enter Tryz.func95, Tryz.ntmps95
    go_wp2_with (at_builtin; refine wpList_append_ownS rfl (.tmp 5) (.tmp 6) 68 rfl w.heap.size 147 i0 _ 4 32 Tryz.underlying68 hi0 hz0 hz1 hz2 rfl (by decide) _ 0 [] rfl (World.ownsRow_made w #[] 0 (Nat.le_refl _) (by decide) rfl) a l.length cap (l.flatMap recCells) rfl h1 (fun j u hu => h3'.out j u hu _) (oneCell_recs l) hh63.out hby.out (hbs.out _) ?_; intro a1 k1 w6 ho6 hg6)
    go_ret
    rw [Nat.zero_add, List.nil_append] at ho6
    refine ⟨a1, k1, rfl, ho6, ?_⟩
    exact ((Below.refl _ _).alloc (Nat.le_refl _) _).grown hg6 (by simp) (fun k hk => by have h : some w.heap.size = some k := hk; simp at h; omega)
structure RingBox (w : World) (rg c : Nat) (lv : Value) (dead : Bool) (L : List RecV) (R : Nat → Prop) : Prop where
  box : w.heap[rg]? = some (ringC c lv dead)
  row : SlOf R w lv 4 (L.flatMap recCells) L.length
theorem RingBox.keep {S R : Nat → Prop} {w w' : World} {rg c : Nat} {lv : Value} {dead : Bool} {L : List RecV} (h : RingBox w rg c lv dead L R) (k : Keep S w w') (h1 : ¬ S rg) (h2 : ∀ b, R b → ¬ S b) : RingBox w' rg c lv dead L R := ⟨k.get h.box h1, h.row.keep k h2⟩
theorem ringRecords_any (w : World) (rg c : Nat) (lv : Value) (dead : Bool) (L : List RecV) (R : Nat → Prop) (h : RingBox w rg c lv dead L R) (hn : L.length ≤ 1000) :
    Calls Tryz.prog 55 #[.pointer (some ⟨rg, 0, none⟩)] w fun e w' => ∃ v, e = .returned v ∧ SlOf (fun b => w.heap.size ≤ b) w' v 4 (L.flatMap recCells) L.length ∧ Below w.heap.size w w' := by
  obtain ⟨r0, r1, r2, rf⟩ := ring_cells h.box
  have HR := Lib.hid h.row
  clear h
  go_enter Tryz.func55, Tryz.ntmps55
  go_wp2_with fail
  refine (cloneRecs_any R L lv w HR.out hn).mono ?_
  rintro e w1 ⟨ao, cap, rfl, ho, b⟩
  have HS := Lib.hid (slOf_owns ho)
  clear ho
  go_wp2_with fail
  go_ret
  exact ⟨_, rfl, HS.out, b⟩
theorem rec_cells {R : Nat → Prop} {w : World} {ao : Option Addr} {n cap : Nat} {l : List RecV} (h : SlOf R w (.slice ao n cap) 4 (l.flatMap recCells) l.length) (h0 : 0 < l.length) :
    ∃ b off, ao = some ⟨b, off, none⟩ ∧ R b ∧ b < w.heap.size ∧ ∀ k (hk : k < l.length), w.cell? ⟨b, off + k * 4, none⟩ = some (.int .i64 l[k].seq) ∧ w.cell? ⟨b, off + k * 4 + 1, none⟩ = some (.int .i64 l[k].ent) ∧ w.cell? ⟨b, off + k * 4 + 2, none⟩ = some (.int .i64 l[k].kind) ∧ w.cell? ⟨b, off + k * 4 + 3, none⟩ = some (.int .i64 l[k].tick) := by
  obtain ⟨b, off, ha, hR, hb, hc⟩ := h.elem (fun _ => rfl) (by decide) h0
  exact ⟨b, off, ha, hR, hb, fun k hk => ⟨hc k hk 0 _ rfl, hc k hk 1 _ rfl, hc k hk 2 _ rfl, hc k hk 3 _ rfl⟩⟩
theorem frozen_of {w : World} {b o : Nat} {cs : Array Value} {t : TypeId} (h : w.heap[b]? = some (.cells cs t)) : w.frozen? ⟨b, o, none⟩ = false := by simp [World.frozen?, h]
def lastZ (L : List RecV) : RecV := L.getLast?.getD ⟨0, 0, 0, 0⟩
theorem ringLast_any (w : World) (rg c : Nat) (lv : Value) (dead : Bool) (L : List RecV) (R : Nat → Prop) (h : RingBox w rg c lv dead L R) (hR : ∀ b, R b → b < w.heap.size) (hn : L.length ≤ 1000) :
    Calls Tryz.prog 190 #[.pointer (some ⟨rg, 0, none⟩)] w fun e w' => e = .returned (.tuple #[recAgg (lastZ L), .bool (!L.isEmpty)]) ∧ Below w.heap.size w w' := by
  obtain ⟨r0, r1, r2, rf⟩ := ring_cells h.box
  have hrg := lt_of_get h.box
  have hrow := h.row
  obtain ⟨ao, cap, rfl⟩ := h.row.val
  clear h
  have ba : Below w.heap.size w (w.alloc (recC ⟨0, 0, 0, 0⟩)) := (Below.refl _ _).alloc (Nat.le_refl _) _
  have na := get_alloc_new w (recC ⟨0, 0, 0, 0⟩)
  have ZF : ∀ o, (w.alloc (recC ⟨0, 0, 0, 0⟩)).frozen? ⟨w.heap.size, o, none⟩ = false := fun o => frozen_of na
  obtain ⟨z0, z1, z2, z3⟩ := four_cells na
  have s1 := (ba.cell (p := ⟨rg, 1, none⟩) hrg).trans r1
  by_cases h0 : L.length = 0
  · obtain rfl := List.eq_nil_of_length_eq_zero h0
    unfold recC at ba
    clear z0 z1 z2 z3 na ZF s1
    go_enter Tryz.func190, Tryz.ntmps190
    go_wp2_with fail
    refine bodyPost_ret (v := .tuple #[recAgg ⟨0, 0, 0, 0⟩, .bool false]) (by simp [recAgg, results, Tryz.results190, go_sem]) rfl ?_
    exact ⟨rfl, ba⟩
  · obtain ⟨b, off, rfl, hRb, hb, hc⟩ := rec_cells hrow (by omega)
    obtain ⟨N, hN⟩ : ∃ N, N = L.length - 1 := ⟨_, rfl⟩
    have hNl : N < L.length := by omega
    obtain ⟨q0, q1, q2, q3⟩ := hc N hNl
    have t0 := (ba.cell (p := ⟨b, off + N * 4, none⟩) hb).trans q0
    have t1 := (ba.cell (p := ⟨b, off + N * 4 + 1, none⟩) hb).trans q1
    have t2 := (ba.cell (p := ⟨b, off + N * 4 + 2, none⟩) hb).trans q2
    have t3 := (ba.cell (p := ⟨b, off + N * 4 + 3, none⟩) hb).trans q3
    have hL : Hid (lastZ L = L[N]) := (show lastZ L = L[N] from by
      unfold lastZ
      rw [List.getLast?_eq_getElem?, ← hN, List.getElem?_eq_getElem hNl]; rfl)
    have hE : Hid (L.isEmpty = false) := (show L.isEmpty = false from by rw [List.isEmpty_eq_false_iff]; intro e; rw [e] at h0; exact h0 rfl)
    have hI : (L.length : Int) - 1 = (N : Int) := by omega
    have hI2 : (N : Int) < L.length := by omega
    unfold recC at ba t0 t1 t2 t3 s1 z0 z1 z2 z3 ZF
    obtain ⟨r, hr⟩ : ∃ r, r = L[N] := ⟨_, rfl⟩
    rw [← hr] at t0 t1 t2 t3 hL
    clear q0 q1 q2 q3 hc hN hr na
    go_enter Tryz.func190, Tryz.ntmps190
    go_wp2_with fail
    generalize w.alloc _ = w1 at ba t0 t1 t2 t3 s1 z0 z1 z2 z3 ZF ⊢
    go_region
    all_goals
      go_wp2_with fail
      refine bodyPost_ret (v := .tuple #[recAgg r, .bool true]) (by simp [recAgg, results, Tryz.results190, go_sem, z0, z1, z2, z3, World.cell?_setCell_same, World.cell?_setCell_other]) rfl ?_
      rw [hL.out, hE.out]
      exact ⟨rfl, ((((ba.setCell (p := ⟨w.heap.size, 0, none⟩) (Nat.le_refl _) _).setCell (p := ⟨w.heap.size, 1, none⟩) (Nat.le_refl _) _).setCell (p := ⟨w.heap.size, 2, none⟩) (Nat.le_refl _) _).setCell (p := ⟨w.heap.size, 3, none⟩) (Nat.le_refl _) _).drew⟩
end Go.Proofs.YtikehilbmldadaaGreatDoor
