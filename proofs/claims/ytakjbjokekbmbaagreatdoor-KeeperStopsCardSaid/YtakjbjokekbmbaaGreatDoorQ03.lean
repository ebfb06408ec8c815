/- Laws for walks that are not of one package: appends, slices, blocks. -/
import Derived.Test.YtakjbjokekbmbaaGreatDoorQ01
import Derived.Laws.AppendOwn
import Derived.Deep.RegionLaw
import Derived.Deep.DeepCutAuto
import Derived.Deep.QuietTactic
import Derived.Deep.DeepMust
import Derived.BigQuiet
import Derived.Test.YtakjbjokekbmbaaGreatDoorQ02
import Derived.Deep.OwnRows
import Derived.Laws.IdiomStrings
import Derived.IntWalk
import Derived.Laws.BitsAllLaws
namespace Go.Proofs.YtakjbjokekbmbaaGreatDoor
open Go.RowKit
set_option linter.unusedVariables false

/-- append onto a slice of one's own, as one step of a region that draws. -/
theorem step_append_own {P : Program} {w : World} {ops : Array Oper} {o : Oper} {a : Act} {K : Act → World → Prop} {Q : Exit → Act → World → Prop} {E : Prop} (hgd : o.guard = none) (s x : Operand) (t : TypeId)
    (ho : o.op = .call { callee := .builtin .append, args := #[s, x], argTypes := #[t, t] })
    (base : Nat) (e : TypeId) (i : TypeInfo) (z : Value) (size bytes : Nat) (ht : P.underlying t = some (.slice e)) (hi : P.info? e = some i) (hz : i.zero = some z)
    (hsize : i.size = size) (hby : i.bytes = bytes) (hzs : z.cells.size = size) (hsz : 0 < size)
    (v : Value) (n : Nat) (xs : List Value) (hs : a.eval s = v) (hown : w.ownsRow base e size v n xs)
    (ad : Addr) (m c : Nat) (news : List Value) (hx : a.eval x = .slice (some ad) m c) (hl : news.length = m * size) (hnews : ∀ j u, news[j]? = some u → w.cell? (ad.add j) = some u) (h1 : ∀ u ∈ news, u.oneCell' = true)
    (h63 : n + m ≤ maxLen) (hbytes : (n + m) * bytes ≤ 140737488355328) (hbase : base ≤ w.heap.size)
    (h : ∀ ao cap w', w'.ownsRow base e size (.slice ao (n + m) cap) (n + m) (xs ++ news) → w.grownBy w' v.ownBlock → K (a.put o.dst (.slice ao (n + m) cap)) w') :
    if Region.wanted o (yielded ops a.tmps) = true then Oper.wp P o a w K Q else E := by
  have hw : Region.wanted o (yielded ops a.tmps) = true := by simp [Region.wanted, hgd]
  rw [if_pos hw]
  refine wp_append_own w s x t ho base e i z size bytes ht hi hz hsize hby hzs hsz v n xs hs hown ad m c news hx hl hnews h1 h63 hbytes hbase ?_
  intro v' w' ho' hg _
  rcases ho'.2 with ⟨hv, hn⟩ | ⟨g, cap, cur, hv, _⟩
  · rw [hv] at ho' ⊢
    have := h none 0 w' (by rw [hn] at ho' ⊢; exact ho') hg
    rw [hn] at this; exact this
  · rw [hv] at ho' ⊢
    exact h _ _ w' ho' hg

theorem ownsRow_keepO {S : Nat → Prop} {w w' : World} {base : Nat} {e : TypeId} {size : Nat} {v : Value} {n : Nat} {xs : List Value} (h : w.ownsRow base e size v n xs) (hk : Keep S w w') (hS : ∀ b, v.ownBlock = some b → ¬ S b) : w'.ownsRow base e size v n xs := by
  refine ⟨h.1, ?_⟩
  rcases h.2 with hn | ⟨g, cap, cur, rfl, hb, hgg, rest⟩
  · exact .inl hn
  · exact .inr ⟨g, cap, cur, rfl, hb, hk.get hgg (hS g rfl), rest⟩

theorem cell_old {w : World} {a : Addr} {v : Value} (h : w.cell? a = some v) (o : Obj) : (w.alloc o).cell? a = some v := by
  have hb := World.block_lt_of_cell? w a h
  rw [World.cell?_of_block (w := w) (Below.heap_alloc _ _ _ hb)]; exact h

theorem two_cells {w : World} {b : Nat} {c0 c1 : Value} {t : TypeId} (h : w.heap[b]? = some (.cells #[c0, c1] t)) :
    w.cell? ⟨b, 0, none⟩ = some c0 ∧ w.cell? ⟨b, 1, none⟩ = some c1 ∧ ∀ o, w.frozen? ⟨b, o, none⟩ = false := by
  simp [World.cell?, World.frozen?, h]

/-- Behind an append onto another row: a block of two cells stays. -/
theorem grown_two {W w1 : World} {g : Nat} {c0 c1 : Value} {t : TypeId} {o : Option Nat} (hg : W.grownBy w1 o) (hh : W.heap[g]? = some (.cells #[c0, c1] t)) (hne : o ≠ some g) :
    w1.heap[g]? = some (.cells #[c0, c1] t) := by
  rw [hg.block g (lt_of_get hh) (fun e => hne e.symm)]; exact hh

theorem slOf_owns {w : World} {base : Nat} {e : TypeId} {size : Nat} {v : Value} {n : Nat} {xs : List Value} (h : w.ownsRow base e size v n xs) : SlOf (fun b => base ≤ b) w v size xs n := by
  obtain ⟨hl, hv⟩ := h
  rcases hv with ⟨rfl, rfl⟩ | ⟨g, cap, cur, rfl, hb, hg, h1, h2, _, htake⟩
  · obtain rfl : xs = [] := List.eq_nil_of_length_eq_zero (by simpa using hl)
    exact SlOf.nil _ _ _
  · refine ⟨hl, _, _, rfl, h1, h2, (fun h => by cases h), fun _ => ⟨g, 0, rfl, hb, lt_of_get hg, fun k u hu => ?_⟩⟩
    rw [Nat.zero_add, cell_of_row w g k cur e (0, 0) hg]
    rw [← htake, List.getElem?_take] at hu
    split at hu
    · simpa using hu
    · cases hu

theorem four_cells {w : World} {b : Nat} {c0 c1 c2 c3 : Value} {t : TypeId} (h : w.heap[b]? = some (.cells #[c0, c1, c2, c3] t)) :
    w.cell? ⟨b, 0, none⟩ = some c0 ∧ w.cell? ⟨b, 1, none⟩ = some c1 ∧ w.cell? ⟨b, 2, none⟩ = some c2 ∧ w.cell? ⟨b, 3, none⟩ = some c3 := by
  simp [World.cell?, h]

theorem wpList_append_ownS {P : Program} {w : World} {ops : Array Oper} {rest : List Oper} {o : Oper} {a : Act} {Q : Exit → Act → World → Prop} (hgd : o.guard = none) (s x : Operand) (t : TypeId)
    (ho : o.op = .call { callee := .builtin .append, args := #[s, x], argTypes := #[t, t] })
    (base : Nat) (e : TypeId) (i : TypeInfo) (z : Value) (size bytes : Nat) (ht : P.underlying t = some (.slice e)) (hi : P.info? e = some i) (hz : i.zero = some z)
    (hsize : i.size = size) (hby : i.bytes = bytes) (hzs : z.cells.size = size) (hsz : 0 < size)
    (v : Value) (n : Nat) (xs : List Value) (hs : a.eval s = v) (hown : w.ownsRow base e size v n xs)
    (ad : Addr) (m c : Nat) (news : List Value) (hx : a.eval x = .slice (some ad) m c) (hl : news.length = m * size) (hnews : ∀ j u, news[j]? = some u → w.cell? (ad.add j) = some u) (h1 : ∀ u ∈ news, u.oneCell' = true)
    (h63 : n + m ≤ maxLen) (hbytes : (n + m) * bytes ≤ 140737488355328) (hbase : base ≤ w.heap.size)
    (h : ∀ ao cap w', w'.ownsRow base e size (.slice ao (n + m) cap) (n + m) (xs ++ news) → w.grownBy w' v.ownBlock → wpList P ops Q rest (a.put o.dst (.slice ao (n + m) cap)) w') :
    wpList P ops Q (o :: rest) a w := by
  refine wpList_append_own w hgd s x t ho base e i z size bytes ht hi hz hsize hby hzs hsz v n xs hs hown ad m c news hx hl hnews h1 h63 hbytes hbase ?_
  intro v' w' ho' hg _
  rcases ho'.2 with ⟨hv, hn⟩ | ⟨g, cap, cur, hv, _⟩
  · rw [hv] at ho' ⊢
    have := h none 0 w' (by rw [hn] at ho' ⊢; exact ho') hg
    rw [hn] at this; exact this
  · rw [hv] at ho' ⊢
    exact h _ _ w' ho' hg

theorem SlOf.here {R : Nat → Prop} {w : World} {v : Value} {sz : Nat} {cs : List Value} {n : Nat} (h : SlOf R w v sz cs n) : SlOf (· < w.heap.size) w v sz cs n := by
  obtain ⟨hl, ao, cap, hv, h1, h2, h3, h4⟩ := h
  refine ⟨hl, ao, cap, hv, h1, h2, h3, fun hp => ?_⟩
  obtain ⟨b, off, ha, hR, hb, hc⟩ := h4 hp
  exact ⟨b, off, ha, hb, hb, hc⟩

end Go.Proofs.YtakjbjokekbmbaaGreatDoor

/- The sentinel errors of package api: where they lie; plain.Code, coded. -/
namespace Go.Proofs.YtakjbjokekbmbaaGreatDoor
open Go.RowKit
set_option linter.unusedVariables false

/-- An error by its number: 0: nil. -/
def errv (sa : Nat → Addr) : Nat → Value
  | 0 => .nilIface
  | k + 1 => .iface 299 (.pointer (some (sa k)))
/-- The variables of package api, in the order of their numbers. -/
def sg (k : Nat) : Nat := [6, 2, 7, 8, 3, 9, 10, 5, 4, 1, 0].getD k 0

structure Sents (B : Nat) (sa : Nat → Addr) (w : World) : Prop where
  gl : ∀ k, k < 11 → w.cell? ⟨sg k, 0, none⟩ = some (errv sa (k + 1))
  nd : ∀ i j, i < 11 → j < 11 → i ≠ j → sa i ≠ sa j
  bl : ∀ k, k < 11 → (sa k).block < B ∧ ∃ c t, w.heap[(sa k).block]? = some (.cells c t (0, 0))
  et : w.cell? ⟨11, 0, none⟩ = some (.iface 203 (.agg #[.pointer (some ⟨20, 46, none⟩)]))
  nb : (∀ k, k < 11 → sg k < B) ∧ 11 < B
  top : B ≤ w.heap.size
theorem Sents.mk' {sa : Nat → Addr} {w : World} (gl : ∀ k, k < 11 → w.cell? ⟨sg k, 0, none⟩ = some (errv sa (k + 1))) (nd : ∀ i j, i < 11 → j < 11 → i ≠ j → sa i ≠ sa j)
    (bl : ∀ k, k < 11 → (sa k).block < w.heap.size ∧ ∃ c t, w.heap[(sa k).block]? = some (.cells c t (0, 0))) (et : w.cell? ⟨11, 0, none⟩ = some (.iface 203 (.agg #[.pointer (some ⟨20, 46, none⟩)]))) : Sents w.heap.size sa w :=
  ⟨gl, nd, bl, et, ⟨fun k hk => World.block_lt_of_cell? _ ⟨sg k, 0, none⟩ (gl k hk), World.block_lt_of_cell? _ ⟨11, 0, none⟩ et⟩, Nat.le_refl _⟩
theorem Sents.keep {B : Nat} {sa : Nat → Addr} {S : Nat → Prop} {w w' : World} (h : Sents B sa w) (k : Keep S w w') (hS : ∀ b, S b → B ≤ b) : Sents B sa w' := by
  have hn := h.nb
  have ht := h.top
  refine ⟨fun i hi => ?_, h.nd, fun i hi => ?_, ?_, hn, Nat.le_trans ht k.size⟩
  · have := hn.1 i hi
    rw [k.cell (p := ⟨sg i, 0, none⟩) (show sg i < w.heap.size by omega) (fun hb => by have := hS _ hb; simp only at this; omega)]
    exact h.gl i hi
  · obtain ⟨h1, c, t, h2⟩ := h.bl i hi
    exact ⟨h1, c, t, k.get h2 (fun hb => by have := hS _ hb; omega)⟩
  · have hn2 := hn.2
    rw [k.cell (p := ⟨11, 0, none⟩) (show 11 < w.heap.size by omega) (fun hb => by have := hS _ hb; simp only at this; omega)]
    exact h.et
theorem Sents.below {B : Nat} {sa : Nat → Addr} {w w' : World} (h : Sents B sa w) (b : Below w.heap.size w w') : Sents B sa w' := h.keep (below_keep b) (fun _ h => h.elim)
theorem Sents.low {B C : Nat} {sa : Nat → Addr} {w w' : World} (h : Sents B sa w) (b : Below C w w') (hC : B ≤ C) : Sents B sa w' := h.keep (Keep.of_below b) (fun k hk => Nat.le_trans hC hk)

theorem Sents.all {B : Nat} {sa : Nat → Addr} {w : World} (h : Sents B sa w) :
    w.cell? ⟨6, 0, none⟩ = some (.iface 299 (.pointer (some (sa 0)))) ∧ w.cell? ⟨2, 0, none⟩ = some (.iface 299 (.pointer (some (sa 1)))) ∧ w.cell? ⟨7, 0, none⟩ = some (.iface 299 (.pointer (some (sa 2)))) ∧
    w.cell? ⟨8, 0, none⟩ = some (.iface 299 (.pointer (some (sa 3)))) ∧ w.cell? ⟨3, 0, none⟩ = some (.iface 299 (.pointer (some (sa 4)))) ∧ w.cell? ⟨9, 0, none⟩ = some (.iface 299 (.pointer (some (sa 5)))) ∧
    w.cell? ⟨10, 0, none⟩ = some (.iface 299 (.pointer (some (sa 6)))) ∧ w.cell? ⟨5, 0, none⟩ = some (.iface 299 (.pointer (some (sa 7)))) ∧ w.cell? ⟨4, 0, none⟩ = some (.iface 299 (.pointer (some (sa 8)))) ∧
    w.cell? ⟨1, 0, none⟩ = some (.iface 299 (.pointer (some (sa 9)))) ∧ w.cell? ⟨0, 0, none⟩ = some (.iface 299 (.pointer (some (sa 10)))) :=
  ⟨h.gl 0 (by decide), h.gl 1 (by decide), h.gl 2 (by decide), h.gl 3 (by decide), h.gl 4 (by decide), h.gl 5 (by decide), h.gl 6 (by decide), h.gl 7 (by decide), h.gl 8 (by decide), h.gl 9 (by decide), h.gl 10 (by decide)⟩

/-- The four that package ring and its cells name. -/
structure SentsR (B : Nat) (sa : Nat → Addr) (w : World) : Prop where
  g1 : w.cell? ⟨2, 0, none⟩ = some (.iface 299 (.pointer (some (sa 1))))
  g2 : w.cell? ⟨7, 0, none⟩ = some (.iface 299 (.pointer (some (sa 2))))
  g6 : w.cell? ⟨10, 0, none⟩ = some (.iface 299 (.pointer (some (sa 6))))
  g7 : w.cell? ⟨5, 0, none⟩ = some (.iface 299 (.pointer (some (sa 7))))
  nb : 2 < B ∧ 7 < B ∧ 10 < B ∧ 5 < B
  top : B ≤ w.heap.size
theorem Sents.r {B : Nat} {sa : Nat → Addr} {w : World} (h : Sents B sa w) : SentsR B sa w :=
  ⟨h.gl 1 (by decide), h.gl 2 (by decide), h.gl 6 (by decide), h.gl 7 (by decide), ⟨h.nb.1 1 (by decide), h.nb.1 2 (by decide), h.nb.1 6 (by decide), h.nb.1 7 (by decide)⟩, h.top⟩
instance {B : Nat} {sa : Nat → Addr} {w : World} : Coe (Sents B sa w) (SentsR B sa w) := ⟨Sents.r⟩
theorem SentsR.keep {B : Nat} {sa : Nat → Addr} {S : Nat → Prop} {w w' : World} (h : SentsR B sa w) (k : Keep S w w') (hS : ∀ b, S b → B ≤ b) : SentsR B sa w' := by
  have ht := h.top
  obtain ⟨n1, n2, n6, n7⟩ := h.nb
  refine ⟨?_, ?_, ?_, ?_, h.nb, Nat.le_trans ht k.size⟩
  · rw [k.cell (p := ⟨2, 0, none⟩) (by show 2 < _; omega) (fun x => by have : B ≤ 2 := hS _ x; omega)]; exact h.g1
  · rw [k.cell (p := ⟨7, 0, none⟩) (by show 7 < _; omega) (fun x => by have : B ≤ 7 := hS _ x; omega)]; exact h.g2
  · rw [k.cell (p := ⟨10, 0, none⟩) (by show 10 < _; omega) (fun x => by have : B ≤ 10 := hS _ x; omega)]; exact h.g6
  · rw [k.cell (p := ⟨5, 0, none⟩) (by show 5 < _; omega) (fun x => by have : B ≤ 5 := hS _ x; omega)]; exact h.g7
theorem SentsR.below {B : Nat} {sa : Nat → Addr} {w w' : World} (h : SentsR B sa w) (b : Below w.heap.size w w') : SentsR B sa w' := h.keep (below_keep b) (fun _ h => h.elim)
theorem SentsR.low {B C : Nat} {sa : Nat → Addr} {w w' : World} (h : SentsR B sa w) (b : Below C w w') (hC : B ≤ C) : SentsR B sa w' := h.keep (Keep.of_below b) (fun k hk => Nat.le_trans hC hk)
theorem SentsR.mk' {sa : Nat → Addr} {w : World} (h1 : w.cell? ⟨2, 0, none⟩ = some (errv sa 2)) (h2 : w.cell? ⟨7, 0, none⟩ = some (errv sa 3)) (h6 : w.cell? ⟨10, 0, none⟩ = some (errv sa 7)) (h7 : w.cell? ⟨5, 0, none⟩ = some (errv sa 8)) : SentsR w.heap.size sa w :=
  ⟨h1, h2, h6, h7, ⟨World.block_lt_of_cell? _ ⟨2, 0, none⟩ h1, World.block_lt_of_cell? _ ⟨7, 0, none⟩ h2, World.block_lt_of_cell? _ ⟨10, 0, none⟩ h6, World.block_lt_of_cell? _ ⟨5, 0, none⟩ h7⟩, Nat.le_refl _⟩

def sentCs (sa : Nat → Addr) : Array Value := #[.iface 299 (.pointer (some (sa 0))), .iface 299 (.pointer (some (sa 1))), .iface 299 (.pointer (some (sa 2))), .iface 299 (.pointer (some (sa 3))), .iface 299 (.pointer (some (sa 4))), .iface 299 (.pointer (some (sa 5))), .iface 299 (.pointer (some (sa 6))), .iface 299 (.pointer (some (sa 7))), .iface 299 (.pointer (some (sa 8))), .iface 299 (.pointer (some (sa 9))), .iface 299 (.pointer (some (sa 10)))]
theorem sent_cells {w : World} {b : Nat} {sa : Nat → Addr} {t : TypeId} (h : w.heap[b]? = some (.cells (sentCs sa) t)) (j : Nat) (hj : j < 11) : w.cell? ⟨b, j, none⟩ = some (.iface 299 (.pointer (some (sa j)))) := by
  unfold sentCs at h
  match j, hj with
  | 0, _ | 1, _ | 2, _ | 3, _ | 4, _ | 5, _ | 6, _ | 7, _ | 8, _ | 9, _ | 10, _ => simp [World.cell?, h]

theorem code_nil (w : World) : Calls Tryz.prog 42 #[.nilIface] w fun e w' => e = .returned (.tuple #[.int .i64 0, .int .i64 (-1)]) ∧ w = w' := by
  go_enter Tryz.func42, Tryz.ntmps42
  go_wp2
  go_ret2
  exact ⟨rfl, rfl⟩

set_option maxRecDepth 100000 in
set_option maxHeartbeats 4000000 in
theorem code_sent (B : Nat) (sa : Nat → Addr) (k : Nat) (hk : k < 11) (w : World) (hS : Sents B sa w) :
    Calls Tryz.prog 42 #[.iface 299 (.pointer (some (sa k)))] w fun e w' => e = .returned (.tuple #[.int .i64 (k + 1), .int .i64 (-1)]) ∧ Below w.heap.size w w' := by
  have HS := Lib.hid hS
  have et := hS.et
  have hnb := hS.nb
  have htop := hS.top
  clear hS
  go_enter Tryz.func42, Tryz.ntmps42
  go_wp2_with fail
  have b0 : Below w.heap.size w (w.alloc (.cells #[.pointer none] 123)) := (Below.refl _ _).alloc (Nat.le_refl _) _
  have hS0 := HS.out.below b0
  refine (as_miss _ _ _ hS0.et).mono ?_
  rintro e w1 ⟨rfl, b1⟩
  have b1' : Below w.heap.size w w1 := b0.trans (b1.mono b0.size)
  have hS1 := hS0.below b1
  have H1 := Lib.hid hS1
  have B1 := Lib.hid b1'
  obtain ⟨g0, g1, g2, g3, g4, g5, g6, g7, g8, g9, g10⟩ := hS1.all
  clear b0 hS0 b1 b1' hS1 et
  go_wp2_with fail
  have b2 : Below w.heap.size w (w1.alloc (.cells (sentCs sa) 46)) := B1.out.alloc B1.out.size _
  have hS2 := H1.out.below ((Below.refl _ w1).alloc (Nat.le_refl _) (.cells (sentCs sa) 46))
  have hc := sent_cells (get_alloc_new w1 (.cells (sentCs sa) 46))
  unfold sentCs at b2 hS2 hc
  generalize w1.alloc _ = w2 at b2 hS2 hc ⊢
  have H2 := Lib.hid hS2
  have HC := Lib.hid hc
  clear hS2 hc g0 g1 g2 g3 g4 g5 g6 g7 g8 g9 g10 H1 B1
  go_loop [3, 29] (fun s3 s => ∃ j : Nat, j ≤ k ∧ s = .int .i64 j ∧ s3 = .int .i64 (-1)) (fun _ s => 11 - (intOf s).toNat)
  case atStart => exact ⟨0, Nat.zero_le _, rfl, rfl⟩
  case round =>
    obtain ⟨j, hj, rfl, rfl⟩ := hrel
    have q := HC.out j (by omega)
    by_cases hjk : j = k
    · subst hjk
      go_wp2_with fail
      refine (is_same _ _).mono ?_
      rintro e w' ⟨rfl, rfl⟩
      go_wp2_with fail
      go_ret2
      exact ⟨rfl, b2⟩
    · have hlt : j < k := by omega
      obtain ⟨_, ca, ta, ha⟩ := H2.out.bl k hk
      obtain ⟨_, cb, tb, hb⟩ := H2.out.bl j (by omega)
      have hne := H2.out.nd k j hk (by omega) (by omega)
      have HA := Lib.hid ha
      have HB := Lib.hid hb
      have HN := Lib.hid hne
      clear ha hb hne
      go_wp2_with fail
      refine (is_other _ _ ca cb ta tb _ HN.out HA.out HB.out).mono ?_
      rintro e w' ⟨rfl, rfl⟩
      go_wp2_with fail
      go_round
      case rel => exact ⟨j + 1, by omega, by go_num, rfl⟩
      case measure => simp [intOf]; omega

theorem code_any (B : Nat) (sa : Nat → Addr) (c : Nat) (hc : c ≤ 11) (w : World) (hS : Sents B sa w) :
    Calls Tryz.prog 42 #[errv sa c] w fun e w' => e = .returned (.tuple #[.int .i64 c, .int .i64 (-1)]) ∧ Below w.heap.size w w' := by
  cases c with
  | zero =>
    refine (code_nil w).mono ?_
    rintro e w' ⟨rfl, rfl⟩
    exact ⟨rfl, Below.refl _ _⟩
  | succ k => exact code_sent B sa k (by omega) w hS
end Go.Proofs.YtakjbjokekbmbaaGreatDoor

/- Package cells: bytes that stay: New, look, Cut, On, Power, Written, Bytes. -/
namespace Go.Proofs.YtakjbjokekbmbaaGreatDoor
open Go.RowKit
set_option linter.unusedVariables false

structure CM where
  bs : List UInt8
  off : Bool
  cut : Int
  wr : Int
/-- A row of bytes. -/
def BytesAt (w : World) (rb : Nat) (bs : List UInt8) : Prop := ∃ C t, w.heap[rb]? = some (.cells C t (0, 0)) ∧ bs.length ≤ C.size ∧ ∀ i (hi : i < bs.length), C[i]? = some (.int .u8 (bs[i].toNat : Int))
def cellC (ao : Option Addr) (cap : Nat) (m : CM) : Obj := .cells #[.slice ao m.bs.length cap, .bool m.off, .int .i64 m.cut, .int .i64 m.wr] 86
structure CellsAt (w : World) (c rb : Nat) (ao : Option Addr) (cap : Nat) (m : CM) : Prop where
  box : w.heap[c]? = some (cellC ao cap m)
  ne : rb ≠ c
  at_ : ao = some ⟨rb, 0, none⟩ ∨ (m.bs = [] ∧ ao = none)
  row : ao = some ⟨rb, 0, none⟩ → BytesAt w rb m.bs
  len : m.bs.length ≤ 4096
  room : m.bs.length ≤ cap
theorem BytesAt.cell {w : World} {rb : Nat} {bs : List UInt8} (h : BytesAt w rb bs) (i : Nat) (hi : i < bs.length) : w.cell? ⟨rb, i, none⟩ = some (.int .u8 (bs[i].toNat : Int)) := by
  obtain ⟨C, t, h1, h2, h3⟩ := h
  simp [World.cell?, h1, h3 i hi]
theorem BytesAt.free {w : World} {rb : Nat} {bs : List UInt8} (h : BytesAt w rb bs) (o : Nat) : w.frozen? ⟨rb, o, none⟩ = false := by
  obtain ⟨C, t, h1, h2, h3⟩ := h
  simp [World.frozen?, h1]
theorem BytesAt.keep {S : Nat → Prop} {w w' : World} {rb : Nat} {bs : List UInt8} (h : BytesAt w rb bs) (k : Keep S w w') (hS : ¬ S rb) : BytesAt w' rb bs := by
  obtain ⟨C, t, h1, h2, h3⟩ := h
  exact ⟨C, t, k.get h1 hS, h2, h3⟩
theorem cells_cells {w : World} {c rb : Nat} {ao : Option Addr} {cap : Nat} {m : CM} (h : CellsAt w c rb ao cap m) :
    w.cell? ⟨c, 0, none⟩ = some (.slice ao m.bs.length cap) ∧ w.cell? ⟨c, 1, none⟩ = some (.bool m.off) ∧ w.cell? ⟨c, 2, none⟩ = some (.int .i64 m.cut) ∧ w.cell? ⟨c, 3, none⟩ = some (.int .i64 m.wr) ∧ ∀ o, w.frozen? ⟨c, o, none⟩ = false := by
  have h := h.box
  unfold cellC at h
  simp [World.cell?, World.frozen?, h]
theorem CellsAt.keep {S : Nat → Prop} {w w' : World} {c rb : Nat} {ao : Option Addr} {cap : Nat} {m : CM} (h : CellsAt w c rb ao cap m) (k : Keep S w w') (hS : ∀ b, S b → b ≠ c ∧ b ≠ rb) : CellsAt w' c rb ao cap m :=
  ⟨k.get h.box (fun hs => (hS _ hs).1 rfl), h.ne, h.at_, fun e => (h.row e).keep k (fun hs => (hS _ hs).2 rfl), h.len, h.room⟩
theorem CellsAt.set1 {w : World} {c rb : Nat} {ao : Option Addr} {cap : Nat} {m : CM} (h : CellsAt w c rb ao cap m) (x : Bool) : CellsAt (w.setCell ⟨c, 1, none⟩ (.bool x)) c rb ao cap { m with off := x } := by
  refine ⟨?_, h.ne, h.at_, fun e => (h.row e).keep (keep_set w c 1 (.bool x)) h.ne, h.len, h.room⟩
  have h := h.box
  unfold cellC at h ⊢
  rw [get_setCell _ h]; rfl
theorem CellsAt.set2 {w : World} {c rb : Nat} {ao : Option Addr} {cap : Nat} {m : CM} (h : CellsAt w c rb ao cap m) (x : Int) : CellsAt (w.setCell ⟨c, 2, none⟩ (.int .i64 x)) c rb ao cap { m with cut := x } := by
  refine ⟨?_, h.ne, h.at_, fun e => (h.row e).keep (keep_set w c 2 (.int .i64 x)) h.ne, h.len, h.room⟩
  have h := h.box
  unfold cellC at h ⊢
  rw [get_setCell _ h]; rfl
theorem CellsAt.set3 {w : World} {c rb : Nat} {ao : Option Addr} {cap : Nat} {m : CM} (h : CellsAt w c rb ao cap m) (x : Int) : CellsAt (w.setCell ⟨c, 3, none⟩ (.int .i64 x)) c rb ao cap { m with wr := x } := by
  refine ⟨?_, h.ne, h.at_, fun e => (h.row e).keep (keep_set w c 3 (.int .i64 x)) h.ne, h.len, h.room⟩
  have h := h.box
  unfold cellC at h ⊢
  rw [get_setCell _ h]; rfl
theorem Tryz.infoByte : (Tryz.prog.info? 5).map (fun i => (i.zero, i.size, i.bytes)) = some (some (.int .u8 0), 1, 1) := by kernel_rfl
theorem BytesAt.made (w : World) (n : Nat) (t : TypeId) : BytesAt (w.alloc (.cells (madeCells #[.int .u8 0] n) t)) w.heap.size (List.replicate n 0) := by
  refine ⟨_, t, get_alloc_new _ _, by simp [size_madeCells], fun i hi => ?_⟩
  simp at hi
  simp [madeCells, hi, Nat.mod_one]

theorem cellsNew_in (n : Nat) (w : World) (hn : n ≤ 4096) :
    Calls Tryz.prog 25 #[.int .i64 n] w fun e w' => e = .returned (.tuple #[.pointer (some ⟨w.heap.size + 1, 0, none⟩), .nilIface]) ∧ CellsAt w' (w.heap.size + 1) w.heap.size (some ⟨w.heap.size, 0, none⟩) n ⟨List.replicate n 0, false, -1, 0⟩ ∧ Below w.heap.size w w' := by
  have hmk := run_make_row' (P := Tryz.prog) 84 5 (.int .u8 0) 1 Tryz.underlying84 Tryz.infoByte rfl .i64 .i64 n (by omega) (by omega)
  have r1 := BytesAt.made w n 5
  have b1 : Below w.heap.size w (w.alloc (.cells (madeCells #[.int .u8 0] n) 5)) := (Below.refl _ _).alloc (Nat.le_refl _) _
  have hs1 : (w.alloc (.cells (madeCells #[.int .u8 0] n) 5)).heap.size = w.heap.size + 1 := World.size_alloc _ _
  have HR := Lib.hid r1
  have HB := Lib.hid b1
  have HS1 := Lib.hid hs1
  clear r1 b1 hs1
  have h0 : ¬ (n : Int) < 0 := by omega
  have h1 : ¬ (4096 : Int) < n := by omega
  go_enter Tryz.func25, Tryz.ntmps25
  go_wp2_with fail
  generalize w.alloc _ = w1 at HR HB HS1 ⊢
  refine bodyPost_ret (results_tmp2 rfl _ _ _) rfl ?_
  rw [← HS1.out]
  refine ⟨rfl, ⟨?_, by have := HS1.out; omega, .inl rfl, fun _ => HR.out.keep (below_keep ((Below.refl _ _).alloc (Nat.le_refl _) _)) (fun h => h), by simpa using hn, by simp⟩, HB.out.alloc HB.out.size _⟩
  have := get_alloc_new w1 (cellC (some ⟨w.heap.size, 0, none⟩) n ⟨List.replicate n 0, false, -1, 0⟩)
  rw [← this]
  simp [cellC]

/-- What is wrong about where is read, or written: an error's number. -/
def lookE (off : Bool) (len : Nat) (at_ n : Int) : Nat := if at_ < 0 ∨ n < 0 ∨ (len : Int) < at_ ∨ (len : Int) - at_ < n then 2 else if off = true then 8 else 0
theorem lookE_out {off : Bool} {len : Nat} {at_ n : Int} (h : at_ < 0 ∨ n < 0 ∨ (len : Int) < at_ ∨ (len : Int) - at_ < n) : lookE off len at_ n = 2 := if_pos h
theorem lookE_off {len : Nat} {at_ n : Int} (h : ¬ (at_ < 0 ∨ n < 0 ∨ (len : Int) < at_ ∨ (len : Int) - at_ < n)) : lookE true len at_ n = 8 := by simp [lookE, h]
theorem lookE_in {len : Nat} {at_ n : Int} (h : ¬ (at_ < 0 ∨ n < 0 ∨ (len : Int) < at_ ∨ (len : Int) - at_ < n)) : lookE false len at_ n = 0 := by simp [lookE, h]

set_option maxHeartbeats 1000000 in
theorem look_any (B : Nat) (sa : Nat → Addr) (c rb : Nat) (ao : Option Addr) (cap : Nat) (m : CM) (at_ n : Int) (w : World) (h : CellsAt w c rb ao cap m) (hS : SentsR B sa w) :
    Calls Tryz.prog 117 #[.pointer (some ⟨c, 0, none⟩), .int .i64 at_, .int .i64 n] w fun e w' => e = .returned (errv sa (lookE m.off m.bs.length at_ n)) ∧ w = w' := by
  obtain ⟨c0, c1, c2, c3, cf⟩ := cells_cells h
  obtain ⟨g1, g2, g6, g7, _, _⟩ := hS
  have hlen := h.len
  clear h g2 g6
  by_cases h1 : at_ < 0
  · rw [lookE_out (.inl h1)]
    go_enter Tryz.func117, Tryz.ntmps117
    go_wp2_with fail
    go_ret
    exact ⟨rfl, rfl⟩
  by_cases h2 : n < 0
  · rw [lookE_out (.inr (.inl h2))]
    go_enter Tryz.func117, Tryz.ntmps117
    go_wp2_with fail
    go_ret
    exact ⟨rfl, rfl⟩
  by_cases h3 : (m.bs.length : Int) < at_
  · rw [lookE_out (.inr (.inr (.inl h3)))]
    go_enter Tryz.func117, Tryz.ntmps117
    go_wp2_with fail
    go_ret
    exact ⟨rfl, rfl⟩
  by_cases h4 : (m.bs.length : Int) - at_ < n
  · rw [lookE_out (.inr (.inr (.inr h4)))]
    go_enter Tryz.func117, Tryz.ntmps117
    go_wp2_with fail
    go_ret
    exact ⟨rfl, rfl⟩
  have hno : ¬ (at_ < 0 ∨ n < 0 ∨ (m.bs.length : Int) < at_ ∨ (m.bs.length : Int) - at_ < n) := by omega
  cases ho : m.off
  · rw [ho] at c1
    rw [lookE_in hno]
    clear hno
    go_enter Tryz.func117, Tryz.ntmps117
    go_wp2_with fail
    go_ret
    exact ⟨rfl, rfl⟩
  · rw [ho] at c1
    rw [lookE_off hno]
    clear hno
    go_enter Tryz.func117, Tryz.ntmps117
    go_wp2_with fail
    go_ret
    exact ⟨rfl, rfl⟩

theorem cellsPower_any (c rb : Nat) (ao : Option Addr) (cap : Nat) (m : CM) (w : World) (h : CellsAt w c rb ao cap m) : Calls Tryz.prog 23 #[.pointer (some ⟨c, 0, none⟩)] w fun e w' => e = .returned (.bool (!m.off)) ∧ w = w' := by
  obtain ⟨c0, c1, c2, c3, cf⟩ := cells_cells h
  clear h
  go_enter Tryz.func23, Tryz.ntmps23
  go_wp2_with fail
  go_ret
  exact ⟨rfl, rfl⟩
end Go.Proofs.YtakjbjokekbmbaaGreatDoor

/- Package cells: Bytes, Read, On, Write. -/
namespace Go.Proofs.YtakjbjokekbmbaaGreatDoor
open Go.RowKit
set_option linter.unusedVariables false

def strOf (l : List UInt8) : ByteArray := ⟨l.toArray⟩
theorem run_bytes_str (w : World) (rb off cap : Nat) (l : List UInt8) (h : ∀ j (hj : j < l.length), w.cell? ⟨rb, off + j, none⟩ = some (.int .u8 (l[j].toNat : Int))) :
    (convert 84 9 (.slice (some ⟨rb, off, none⟩) l.length cap)).run Tryz.prog w = .ok (.string (strOf l)) w :=
  run_convert_bytes_back w 84 9 5 ⟨rb, off, none⟩ cap l Tryz.underlying84 Tryz.underlying5 Tryz.underlying9 (fun j hj => by rw [addr_add]; exact h j hj)
theorem run_bytes_nil (w : World) (cap : Nat) :
    (convert 84 9 (.slice none 0 cap)).run Tryz.prog w = .ok (.string (strOf [])) w :=
  run_convert_bytes_nil w 84 5 Tryz.underlying84 Tryz.underlying5 0 cap 9 Tryz.underlying9

/-- 'b[lo:hi]' of bytes: where it begins is one place, or another. -/
theorem run_sub_bytes (w : World) (rb cap len a n : Nat) (h1 : a + n ≤ cap) :
    ∃ A : Option Addr, (A = some ⟨rb, a, none⟩ ∨ (n = 0 ∧ ∃ o, A = some ⟨rb, o, none⟩)) ∧ (Instr.slice 84 (.slice (some ⟨rb, 0, none⟩) len cap) (some (.int .i64 a)) (some (.int .i64 ((a : Int) + n))) none).run Tryz.prog w = .ok (.slice A n (cap - a)) w := by
  have ht : Tryz.prog.underlying 84 = some (.slice (Tryz.prog.elem 84)) := by kernel_rfl
  have hs : ((sizeOf (Tryz.prog.elem 84)).run Tryz.prog w) = .ok 1 w := by kernel_rfl
  refine ⟨if cap = a then some ⟨rb, 0, none⟩ else (some ⟨rb, 0, none⟩ : Option Addr).map (·.add (a * 1)), ?_, ?_⟩
  · by_cases h : cap = a
    · right
      rw [if_pos h]
      exact ⟨by omega, 0, rfl⟩
    · left
      rw [if_neg h, Nat.mul_one]
      show some (Addr.add ⟨rb, 0, none⟩ a) = _
      rw [addr_add, Nat.zero_add]
  · rw [run_slice_lh w 84 (some ⟨rb, 0, none⟩) len cap ht .i64 .i64 a ((a : Int) + n) (by omega) (by omega) (by omega), hs]
    show Result.ok (sliced _ _ _ _ _) w = _
    unfold sliced
    rw [show ((a : Int)).toNat = a from by omega, show ((a : Int) + n).toNat = a + n from by omega, show a + n - a = n from by omega]

theorem cellsOn_any (c rb : Nat) (ao : Option Addr) (cap : Nat) (m : CM) (w : World) (h : CellsAt w c rb ao cap m) : Calls Tryz.prog 43 #[.pointer (some ⟨c, 0, none⟩)] w fun e w' => e = .returned (.tuple #[]) ∧ CellsAt w' c rb ao cap ⟨m.bs, false, -1, m.wr⟩ ∧ Keep (· = c) w w' := by
  obtain ⟨c0, c1, c2, c3, cf⟩ := cells_cells h
  have H1 := Lib.hid ((h.set1 false).set2 (-1))
  clear h
  go_enter Tryz.func43, Tryz.ntmps43
  go_wp2_with fail
  first | (go_end0; exact ⟨rfl, H1.out, (keep_set w c 1 _).trans (keep_set _ c 2 _)⟩) | (go_region; all_goals (go_wp2_with fail; go_end0; exact ⟨rfl, H1.out, ((keep_set w c 1 _).trans (keep_set _ c 2 _))⟩))

theorem cellsRead_bad (B : Nat) (sa : Nat → Addr) (c rb : Nat) (ao : Option Addr) (cap : Nat) (m : CM) (at_ n : Int) (k : Nat) (w : World) (h : CellsAt w c rb ao cap m) (hS : SentsR B sa w) (hk : lookE m.off m.bs.length at_ n = k + 1) :
    Calls Tryz.prog 93 #[.pointer (some ⟨c, 0, none⟩), .int .i64 at_, .int .i64 n] w fun e w' => e = .returned (.tuple #[.string (strOf []), errv sa (k + 1)]) ∧ w = w' := by
  have HS := Lib.hid hS
  have H := Lib.hid h
  clear h hS
  go_enter Tryz.func93, Tryz.ntmps93
  go_wp2_with fail
  refine (look_any B sa c rb ao cap m at_ n w H.out HS.out).mono ?_
  rintro e w' ⟨rfl, rfl⟩
  rw [hk]
  have he : errv sa (k + 1) = .iface 299 (.pointer (some (sa k))) := rfl
  rw [he]
  go_wp2_with fail
  go_ret2
  exact ⟨rfl, rfl⟩
set_option maxRecDepth 20000 in
theorem cellsRead_good (B : Nat) (sa : Nat → Addr) (c rb : Nat) (ao : Option Addr) (cap : Nat) (m : CM) (a n : Nat) (w : World) (h : CellsAt w c rb ao cap m) (hS : SentsR B sa w) (ho : m.off = false) (hn : a + n ≤ m.bs.length) :
    Calls Tryz.prog 93 #[.pointer (some ⟨c, 0, none⟩), .int .i64 a, .int .i64 n] w fun e w' => e = .returned (.tuple #[.string (strOf ((m.bs.drop a).take n)), .nilIface]) ∧ w = w' := by
  have HS := Lib.hid hS
  have H := Lib.hid h
  obtain ⟨c0, c1, c2, c3, cf⟩ := cells_cells h
  have hl := h.len
  have hrm := h.room
  have hk : lookE m.off m.bs.length a n = 0 := by rw [ho]; exact lookE_in (by omega)
  have hll : ((m.bs.drop a).take n).length = n := by simp; omega
  rcases h.at_ with rfl | ⟨hb, rfl⟩
  · have hr := h.row rfl
    obtain ⟨A, hA, hsl⟩ := run_sub_bytes w rb cap m.bs.length a n (by omega)
    have hcv : (convert 84 9 (.slice A n (cap - a))).run Tryz.prog w = .ok (.string (strOf ((m.bs.drop a).take n))) w := by
      rcases hA with rfl | ⟨hn0, o, rfl⟩
      · have := run_bytes_str w rb a (cap - a) ((m.bs.drop a).take n) (fun j hj => by rw [hll] at hj; rw [hr.cell (a + j) (by omega)]; simp)
        rw [hll] at this; exact this
      · subst hn0
        have := run_bytes_str w rb o (cap - a) [] (fun j hj => by simp at hj)
        simpa using this
    have HW := IntWalk.i64_in ((a : Int) + n) (by omega)
    clear h hS hr hll hA
    go_enter Tryz.func93, Tryz.ntmps93
    go_wp2_with fail
    refine (look_any B sa c rb _ cap m a n w H.out HS.out).mono ?_
    rintro e w' ⟨rfl, rfl⟩
    rw [hk]
    rw [show errv sa 0 = .nilIface from rfl]
    clear H HS hk
    go_wp2_with fail
    go_ret2
    exact ⟨rfl, rfl⟩
  · have ha0 : a = 0 := by rw [hb] at hn; simp at hn; omega
    have hn0 : n = 0 := by rw [hb] at hn; simp at hn; omega
    subst ha0; subst hn0
    have hsl : (Instr.slice 84 (.slice none m.bs.length cap) (some (.int .i64 ((0 : Nat) : Int))) (some (.int .i64 (((0 : Nat) : Int) + ((0 : Nat) : Int)))) none).run Tryz.prog w = .ok (.slice none 0 cap) w := by
      have ht : Tryz.prog.underlying 84 = some (.slice (Tryz.prog.elem 84)) := by kernel_rfl
      have hs : ((sizeOf (Tryz.prog.elem 84)).run Tryz.prog w) = .ok 1 w := by kernel_rfl
      rw [run_slice_lh w 84 none m.bs.length cap ht .i64 .i64 ((0 : Nat) : Int) (((0 : Nat) : Int) + ((0 : Nat) : Int)) (by omega) (by omega) (by omega), hs]
      show Result.ok (sliced _ _ _ _ _) w = _
      unfold sliced
      split <;> rfl
    have hcv := run_bytes_nil w cap
    simp only [Int.natCast_zero, Int.add_zero] at hsl hk ⊢
    clear h hS hll
    go_enter Tryz.func93, Tryz.ntmps93
    go_wp2_with fail
    refine (look_any B sa c rb _ cap m _ _ w H.out HS.out).mono ?_
    rintro e w' ⟨rfl, rfl⟩
    rw [hk]
    rw [show errv sa 0 = .nilIface from rfl]
    clear H HS hk
    go_wp2_with fail
    go_ret2
    exact ⟨by simp, rfl⟩

/-- What is written, byte by byte. -/
def wBytes (bs : List UInt8) (a : Nat) (l : List UInt8) (j : Nat) : List UInt8 := bs.take a ++ l.take j ++ bs.drop (a + j)
theorem wBytes_zero (bs : List UInt8) (a : Nat) (l : List UInt8) : wBytes bs a l 0 = bs := by simp [wBytes]
theorem wBytes_length (bs : List UInt8) (a : Nat) (l : List UInt8) (j : Nat) (hj : j ≤ l.length) (h : a + j ≤ bs.length) : (wBytes bs a l j).length = bs.length := by
  simp [wBytes]; omega
theorem wBytes_succ (bs : List UInt8) (a : Nat) (l : List UInt8) (j : Nat) (hj : j < l.length) (h : a + j < bs.length) : wBytes bs a l (j + 1) = (wBytes bs a l j).set (a + j) l[j] := by
  have h1 : (bs.take a ++ l.take j).length = a + j := by simp; omega
  unfold wBytes
  rw [List.take_succ_eq_append_getElem hj, List.set_append_right _ _ (by omega), h1, Nat.sub_self]
  rw [List.drop_eq_getElem_cons h, List.set_cons_zero, ← Nat.add_assoc]
  simp only [List.append_assoc, List.cons_append, List.nil_append]
def cutAt (cut : Int) (j : Nat) : Int := if cut = -1 then -1 else cut - j
theorem cutAt_zero (cut : Int) : cutAt cut 0 = cut := by unfold cutAt; split <;> omega
theorem cutAt_succ {cut : Int} {j : Nat} (h0 : -1 ≤ cut) (hj : cut = -1 ∨ (j : Int) < cut) : (if -1 < cutAt cut j - 1 then cutAt cut j - 1 else -1) = cutAt cut (j + 1) := by
  unfold cutAt
  by_cases h : cut = -1
  · simp [h]
  · simp only [h, if_false]
    split <;> omega
def writeN (cut : Int) (len : Nat) : Nat := if cut = -1 then len else min cut.toNat len
def writeM (m : CM) (a : Nat) (l : List UInt8) : CM := ⟨wBytes m.bs a l (writeN m.cut l.length), decide (writeN m.cut l.length < l.length), cutAt m.cut (writeN m.cut l.length), m.wr + writeN m.cut l.length⟩
def writeE (cut : Int) (len : Nat) : Nat := if writeN cut len < len then 8 else 0
theorem BytesAt.set {w : World} {rb : Nat} {bs : List UInt8} (h : BytesAt w rb bs) (i : Nat) (x : UInt8) (hi : i < bs.length) : BytesAt (w.setCell ⟨rb, i, none⟩ (.int .u8 (x.toNat : Int))) rb (bs.set i x) := by
  obtain ⟨C, t, h1, h2, h3⟩ := h
  refine ⟨C.setIfInBounds i (.int .u8 (x.toNat : Int)), t, get_setCell _ h1, by simpa using h2, fun j hj => ?_⟩
  simp at hj
  by_cases e : i = j
  · subst e
    have : i < C.size := by omega
    simp [this]
  · simp [e, h3 j hj]
theorem CellsAt.setB {w : World} {c rb : Nat} {cap : Nat} {m : CM} (h : CellsAt w c rb (some ⟨rb, 0, none⟩) cap m) (i : Nat) (x : UInt8) (hi : i < m.bs.length) : CellsAt (w.setCell ⟨rb, i, none⟩ (.int .u8 (x.toNat : Int))) c rb (some ⟨rb, 0, none⟩) cap ⟨m.bs.set i x, m.off, m.cut, m.wr⟩ := by
  refine ⟨?_, h.ne, .inl rfl, fun _ => (h.row rfl).set i x hi, by simpa using h.len, by simpa using h.room⟩
  have h1 := (keep_set w rb i (.int .u8 (x.toNat : Int))).get h.box (fun e => h.ne e.symm)
  rw [h1]
  simp [cellC]

set_option maxRecDepth 20000 in
set_option maxHeartbeats 2000000 in
theorem cellsWrite_good (B : Nat) (sa : Nat → Addr) (c rb : Nat) (cap : Nat) (m : CM) (a : Nat) (s : ByteArray) (w : World) (h : CellsAt w c rb (some ⟨rb, 0, none⟩) cap m) (hS : SentsR B sa w) (hB : B ≤ c ∧ B ≤ rb) (ho : m.off = false) (hn : a + s.size ≤ m.bs.length)
    (hc0 : -1 ≤ m.cut) (hc1 : m.cut ≤ 9223372036854775807) (hw0 : 0 ≤ m.wr) (hw1 : m.wr ≤ 1000000000) :
    Calls Tryz.prog 113 #[.pointer (some ⟨c, 0, none⟩), .int .i64 a, .string s] w fun e w' => e = .returned (errv sa (writeE m.cut s.size)) ∧ CellsAt w' c rb (some ⟨rb, 0, none⟩) cap (writeM m a s.data.toList) ∧ Keep (fun b => b = c ∨ b = rb) w w' := by
  have HS := Lib.hid hS
  have H := Lib.hid h
  have hl := h.len
  have hk : lookE m.off m.bs.length a s.size = 0 := by rw [ho]; exact lookE_in (by omega)
  have h0 : CellsAt w c rb (some ⟨rb, 0, none⟩) cap ⟨wBytes m.bs a s.data.toList 0, false, cutAt m.cut 0, m.wr + (0 : Nat)⟩ := by
    rw [wBytes_zero, cutAt_zero, ← ho, show m.wr + ((0 : Nat) : Int) = m.wr by omega]; exact h
  have H0 := Lib.hid h0
  have hK0 : Hid (Keep (fun b => b = c ∨ b = rb) w w) := Keep.refl _ _
  have hsz : s.data.toList.length = s.size := rfl
  clear h hS h0
  go_enter Tryz.func113, Tryz.ntmps113
  go_wp2_with fail
  refine (look_any B sa c rb _ cap m a s.size w H.out HS.out).mono ?_
  rintro e w' ⟨rfl, rfl⟩
  rw [hk]
  rw [show errv sa 0 = .nilIface from rfl]
  clear hk
  go_wp2_with fail
  go_loopw [19] (fun s19 wr => ∃ j : Nat, j ≤ writeN m.cut s.size ∧ j ≤ s.size ∧ s19 = .int .i64 j ∧ Hid (CellsAt wr c rb (some ⟨rb, 0, none⟩) cap ⟨wBytes m.bs a s.data.toList j, false, cutAt m.cut j, m.wr + j⟩) ∧ Hid (Keep (fun b => b = c ∨ b = rb) w wr)) (fun s19 _ => s.size - (intOf s19).toNat)
  case atStart => exact ⟨0, Nat.zero_le _, Nat.zero_le _, rfl, H0, hK0⟩
  case round =>
    obtain ⟨j, hjn, hj, rfl, hcm, hkp⟩ := hrel
    obtain ⟨c0, c1, c2, c3, cf⟩ := cells_cells hcm.out
    simp only at c0 c1 c2 c3
    rw [wBytes_length m.bs a s.data.toList j (by omega) (by omega)] at c0
    by_cases hlt : j < s.size
    · by_cases hz : cutAt m.cut j = 0
      · have hce : m.cut = j := by
          unfold cutAt at hz
          split at hz <;> omega
        have hwn : writeN m.cut s.size = j := by
          simp only [writeN, show ¬ m.cut = -1 by omega, if_false]; omega
        have C1 := hcm.out.set1 true
        have k1 := hkp.out.trans ((keep_set wr c 1 (.bool true)).mono (fun b _ hb => Or.inl hb))
        obtain ⟨g1, g2, g6, g7, _, _⟩ := (HS.out.keep k1 (fun b hb => by rcases hb with rfl | rfl; exact hB.1; exact hB.2))
        rw [hz] at c2
        have e2 : writeE m.cut s.size = 8 := by simp [writeE, hwn, hlt]
        have e3 : writeM m a s.data.toList = ⟨wBytes m.bs a s.data.toList j, true, cutAt m.cut j, m.wr + j⟩ := by
          show (⟨wBytes m.bs a s.data.toList (writeN m.cut s.size), decide (writeN m.cut s.size < s.size), cutAt m.cut (writeN m.cut s.size), m.wr + writeN m.cut s.size⟩ : CM) = _
          rw [hwn, decide_eq_true hlt]
        have E2 := Lib.hid e2
        have E3 := Lib.hid e3
        have C1H := Lib.hid C1
        have K1H := Lib.hid k1
        clear g1 g2 g6 C1 k1 e2 e3 hz hce hwn
        go_wp2_with fail
        go_ret
        rw [E2.out, E3.out]
        exact ⟨rfl, C1H.out, K1H.out⟩
      · have hz2 : (cutAt m.cut j == 0) = false := by simp [hz]
        have hr := hcm.out.row rfl
        have hrl : a + j < (wBytes m.bs a s.data.toList j).length := by rw [wBytes_length m.bs a s.data.toList j (by omega) (by omega)]; omega
        obtain ⟨vv, qv⟩ : ∃ vv, wr.cell? ⟨rb, a + j, none⟩ = some vv := ⟨_, hr.cell (a + j) hrl⟩
        have qf := hr.free
        have HR := Lib.hid hr
        have HAJ := IntWalk.i64_in ((a : Int) + j) (by omega)
        have hlt2 : (j : Int) < (s.size : Int) := by omega
        have haj2 : (a : Int) + j < (m.bs.length : Int) := by omega
        clear hr hrl
        go_upto_region 10 with fail
        go_region
        have hcs : m.cut = -1 ∨ (j : Int) < m.cut := by
          by_cases e : m.cut = -1
          · exact .inl e
          · right
            have e1 : cutAt m.cut j = m.cut - j := by simp [cutAt, e]
            have e2 : writeN m.cut s.size = min m.cut.toNat s.size := by simp [writeN, e]
            rw [e1] at hz
            rw [e2] at hjn
            omega
        have hjn2 : j + 1 ≤ writeN m.cut s.size := by
          by_cases e : m.cut = -1
          · simp [writeN, e]; omega
          · simp only [writeN, e, if_false]; omega
        have hcut2 := Lib.hid (cutAt_succ hc0 hcs)
        have hcub : -1 ≤ cutAt m.cut j ∧ cutAt m.cut j ≤ 9223372036854775807 := by unfold cutAt; split <;> omega
        have e1 : (wBytes m.bs a s.data.toList j).set (a + j) s[j] = wBytes m.bs a s.data.toList (j + 1) := (wBytes_succ m.bs a s.data.toList j (by omega) (by omega)).symm
        have cm1 := hcm.out.setB (a + j) s[j] (by simp only; rw [wBytes_length m.bs a s.data.toList j (by omega) (by omega)]; omega)
        simp only at cm1
        rw [e1] at cm1
        have kd : Keep (fun b => b = c ∨ b = rb) w ((wr.setCell ⟨rb, a + j, none⟩ (.int .u8 (s[j].toNat : Int))).drew) := (hkp.out.trans ((keep_set wr rb (a + j) _).mono (fun b _ hb => .inr hb))).drew
        have C1 := Lib.hid (cm1.keep (Keep.drew (Keep.refl (fun _ => False) _)) (fun _ h => h.elim))
        have K1 := Lib.hid kd
        clear cm1 kd e1 c0 c1 c2 c3 cf qv qf HR hkp hcm hz hz2
        generalize World.drew _ = w1 at C1 K1 ⊢
        obtain ⟨x0, x1, x2, x3, xf⟩ := cells_cells C1.out
        have C2 := Lib.hid (C1.out.set3 (m.wr + j + 1))
        have K2 := Lib.hid (K1.out.trans ((keep_set w1 c 3 (.int .i64 (m.wr + j + 1))).mono (fun b _ hb => .inl hb)))
        simp only at x0 x1 x2 x3
        go_upto_region 12 with fail
        generalize World.setCell _ _ _ = w2 at C2 K2 ⊢
        obtain ⟨y0, y1, y2, y3, yf⟩ := cells_cells C2.out
        simp only at y0 y1 y2 y3
        go_wp2_with fail
        rw [hcut2.out]
        have C3 := C2.out.set2 (cutAt m.cut (j + 1))
        simp only at C3
        rw [show m.wr + (j : Int) + 1 = m.wr + ((j + 1 : Nat) : Int) by omega] at C3
        have C3H := Lib.hid C3
        clear C3
        go_roundw
        case rel => exact ⟨j + 1, hjn2, by omega, by go_num, C3H, K2.out.trans ((keep_set w2 c 2 _).mono (fun b _ hb => .inl hb))⟩
        case measure => simp [intOf]; omega
    · obtain rfl : j = s.size := by omega
      have hwn : writeN m.cut s.size = s.size := by
        have : writeN m.cut s.size ≤ s.size := by unfold writeN; split; exact Nat.le_refl _; exact Nat.min_le_right _ _
        omega
      have e2 : writeE m.cut s.size = 0 := by simp [writeE, hwn]
      have e3 : writeM m a s.data.toList = ⟨wBytes m.bs a s.data.toList s.size, false, cutAt m.cut s.size, m.wr + s.size⟩ := by
        show (⟨wBytes m.bs a s.data.toList (writeN m.cut s.size), decide (writeN m.cut s.size < s.size), cutAt m.cut (writeN m.cut s.size), m.wr + writeN m.cut s.size⟩ : CM) = _
        rw [hwn, decide_eq_false (Nat.lt_irrefl _)]
      have E2 := Lib.hid e2
      have E3 := Lib.hid e3
      clear e2 e3 hwn
      go_wp2_with fail
      go_ret
      rw [E2.out, E3.out]
      exact ⟨rfl, hcm.out, hkp.out⟩
/-- What there is of cut and count. -/
structure CMOk (m : CM) (k : Int) : Prop where
  c0 : -1 ≤ m.cut
  c1 : m.cut ≤ 9223372036854775807
  w0 : 0 ≤ m.wr
  w1 : m.wr ≤ k
theorem CMOk.mono {m : CM} {k k' : Int} (h : CMOk m k) (hk : k ≤ k') : CMOk m k' := ⟨h.c0, h.c1, h.w0, by have := h.w1; omega⟩
end Go.Proofs.YtakjbjokekbmbaaGreatDoor

/- Package ring, the document's ring: sums, numbers in bytes. -/
namespace Go.Proofs.YtakjbjokekbmbaaGreatDoor
open Go.RowKit
set_option linter.unusedVariables false

theorem xor_byte_lt {c : Nat} {b : UInt8} (h : c < 4294967296) : c ^^^ b.toNat < 4294967296 := by
  refine Nat.xor_lt_two_pow (n := 32) h ?_
  have := b.toNat_lt
  omega
theorem crcFold_take (l : List UInt8) (k : Nat) (hk : k < l.length) (c : Nat) : crcFold (l.take (k + 1)) c = crcByte (crcFold (l.take k) c) l[k] := by
  rw [List.take_succ_eq_append_getElem hk, crcFold_snoc]

theorem xor_all {c : Nat} (h : c < 4294967296) : 4294967295 ^^^ c = 4294967295 - c := by
  have e := congrArg BitVec.toNat (BitVec.xor_allOnes (x := BitVec.ofNat 32 c))
  rw [BitVec.toNat_xor, BitVec.toNat_not, BitVec.toNat_ofNat, BitVec.toNat_allOnes, Nat.mod_eq_of_lt (show c < 2 ^ 32 by omega), Nat.xor_comm] at e
  exact e
theorem bit_u32 {d : Nat} (h : d < 4294967296) : bits .xor .u32 ((d : Int) / 2) (3988292384 * bits .and .u32 (d : Int) 1 % 4294967296) = ((crcBit d : Nat) : Int) := by
  rw [show (1 : Int) = ((1 : Nat) : Int) from rfl, u32_and_nat d 1 h (by decide), nat_mask1, show ((d : Int) / 2) = ((d / 2 : Nat) : Int) by omega]
  unfold crcBit
  by_cases e : d % 2 = 1
  · rw [if_pos e, e]
    exact u32_xor_nat (d / 2) 3988292384 (by omega) (by decide)
  · rw [if_neg e, show d % 2 = 0 by omega]
    exact u32_xor_nat (d / 2) 0 (by omega) (by decide)

set_option maxHeartbeats 1000000 in
theorem sum_any (s : ByteArray) (w : World) (hs : s.size ≤ 100000) : Calls Tryz.prog 135 #[.string s] w fun e w' => e = .returned (.int .i64 (crc s.data.toList : Nat)) ∧ w = w' := by
  have hlen : s.data.toList.length = s.size := rfl
  have HLEN := Lib.hid hlen
  clear hlen
  go_enter Tryz.func135, Tryz.ntmps135
  go_wp2_with fail
  go_loop [3, 7] (fun s3 s7 => ∃ k : Nat, k ≤ s.size ∧ s3 = .int .u32 (crcFold (s.data.toList.take k) 4294967295 : Nat) ∧ s7 = .int .i64 k) (fun _ s7 => s.size - (intOf s7).toNat)
  case atStart => exact ⟨0, Nat.zero_le _, rfl, rfl⟩
  case round =>
    obtain ⟨k, hk, rfl, rfl⟩ := hrel
    have hc : crcFold (s.data.toList.take k) 4294967295 < 4294967296 := crcFold_lt (by decide)
    by_cases hlt : k < s.size
    · have hT := Lib.hid (crcFold_take s.data.toList k (by rw [HLEN.out]; exact hlt) 4294967295)
      obtain ⟨c, hcc⟩ : ∃ c, c = crcFold (s.data.toList.take k) 4294967295 := ⟨_, rfl⟩
      rw [← hcc] at hc hT ⊢
      have hb := s[k].toNat_lt
      have hx : bits .xor .u32 (c : Int) ((s[k].toNat : Int) % 4294967296) = ((c ^^^ s[k].toNat : Nat) : Int) := by
        rw [show (s[k].toNat : Int) % 4294967296 = (s[k].toNat : Int) by omega]
        exact u32_xor_nat c _ hc (by omega)
      have hd : c ^^^ s[k].toNat < 4294967296 := xor_byte_lt hc
      have HCC := Lib.hid hcc
      have HC := Lib.hid hc
      have HD := Lib.hid hd
      clear hcc hc hb hd
      go_wp2_with fail
      go_loop [3, 16] (fun s3 s16 => ∃ j : Nat, j ≤ 8 ∧ s3 = .int .u32 (crcIter j (c ^^^ s[k].toNat) : Nat) ∧ s16 = .int .i64 j) (fun _ s16 => 8 - (intOf s16).toNat)
      case atStart => exact ⟨0, Nat.zero_le _, rfl, rfl⟩
      case round =>
        obtain ⟨j, hj, rfl, rfl⟩ := hrel
        clear hx
        by_cases hlt8 : j < 8
        · have hq : crcIter j (c ^^^ s[k].toNat) < 4294967296 := crcIter_lt HD.out
          have hS : Hid (crcIter (j + 1) (c ^^^ s[k].toNat) = crcBit (crcIter j (c ^^^ s[k].toNat))) := (rfl : crcIter (j + 1) (c ^^^ s[k].toNat) = crcBit (crcIter j (c ^^^ s[k].toNat)))
          generalize crcIter j (c ^^^ s[k].toNat) = d at hq hS ⊢
          have hB := Lib.hid (bit_u32 hq)
          go_wp2_with fail
          go_round
          case rel => exact ⟨j + 1, by omega, by rw [hB.out, hS.out], by go_num⟩
          case measure => simp [intOf]; omega
        · have h8 : j = 8 := by omega
          go_wp2_with fail
          go_round
          case rel => exact ⟨k + 1, by omega, by rw [hT.out, h8]; rfl, by go_num⟩
          case measure => simp [intOf]; omega
    · have hN : bits .xor .u32 IntKind.u32.max (crcFold (s.data.toList.take k) 4294967295 : Nat) = ((4294967295 - crcFold (s.data.toList.take k) 4294967295 : Nat) : Int) := by
        rw [show IntKind.u32.max = ((4294967295 : Nat) : Int) from rfl, u32_xor_nat _ _ (by decide) hc, xor_all hc]
      have hw : IntKind.i64.wrap ((4294967295 - crcFold (s.data.toList.take k) 4294967295 : Nat) : Int) = ((4294967295 - crcFold (s.data.toList.take k) 4294967295 : Nat) : Int) := IntWalk.i64_in _ (by omega)
      have hE : Hid (4294967295 - crcFold (s.data.toList.take k) 4294967295 = crc s.data.toList) := (show 4294967295 - crcFold (s.data.toList.take k) 4294967295 = crc s.data.toList from by
        unfold crc
        rw [List.take_of_length_le (by rw [HLEN.out]; omega)])
      go_wp2_with fail
      go_ret
      exact ⟨ret_int (by rw [hE.out]; exact IntWalk.wrap64_in ((crc s.data.toList : Nat) : Int) (by have := crc_lt s.data.toList; omega)), rfl⟩

theorem beB_cons : ∀ (i n : Nat), beB (i + 1) n = UInt8.ofNat (n / 256 ^ i) :: beB i n
  | 0, n => by simp [beB]
  | i + 1, n => by
    rw [beB, beB_cons i (n / 256), beB, List.cons_append, Nat.div_div_eq_div_mul, Nat.pow_succ, Nat.mul_comm]
def numL (many n i : Nat) : List UInt8 := List.replicate (many - i) 0 ++ beB i n
theorem numL_length {many n i : Nat} (h : i ≤ many) : (numL many n i).length = many := by simp [numL, beB_length]; omega
theorem numL_succ {many n i : Nat} (h : i < many) : (numL many n i).set (many - 1 - i) (UInt8.ofNat (n / 256 ^ i)) = numL many n (i + 1) := by
  unfold numL
  rw [beB_cons, show many - i = (many - 1 - i) + 1 by omega, List.replicate_succ', List.append_assoc, List.set_append_right _ _ (by simp), show many - (i + 1) = many - 1 - i by omega]
  simp
theorem byte_of (n i : Nat) : ((n : Int) / 2 ^ (8 * i) % 256) = ((UInt8.ofNat (n / 256 ^ i)).toNat : Int) := by
  rw [UInt8.toNat_ofNat', show (256 : Nat) ^ i = 2 ^ (8 * i) by rw [Nat.pow_mul]]
  simp
set_option maxRecDepth 20000 in
set_option maxHeartbeats 1000000 in
theorem ringNumber_any (n many : Nat) (hm : many ≤ 8) (hn : n < 9223372036854775808) (w : World) : Calls Tryz.prog 134 #[.int .i64 n, .int .i64 many] w fun e w' => e = .returned (.string (strOf (beB many n))) ∧ Below w.heap.size w w' := by
  have hmk := run_make_row' (P := Tryz.prog) 84 5 (.int .u8 0) 1 Tryz.underlying84 Tryz.infoByte rfl .i64 .i64 many (by omega) (by omega)
  have r1 := BytesAt.made w many 5
  have b1 : Below w.heap.size w (w.alloc (.cells (madeCells #[.int .u8 0] many) 5)) := (Below.refl _ _).alloc (Nat.le_refl _) _
  have HR := Lib.hid r1
  have HB := Lib.hid b1
  clear r1 b1
  go_enter Tryz.func134, Tryz.ntmps134
  go_wp2_with fail
  generalize w.alloc _ = w1 at HR HB ⊢
  go_loopw [10] (fun s10 wr => ∃ i : Nat, i ≤ many ∧ s10 = .int .i64 i ∧ Hid (BytesAt wr w.heap.size (numL many n i)) ∧ Hid (Below w.heap.size w wr)) (fun s10 _ => many - (intOf s10).toNat)
  case atStart => exact ⟨0, Nat.zero_le _, rfl, (show Hid (BytesAt w1 w.heap.size (numL many n 0)) from by unfold numL; rw [Nat.sub_zero, show beB 0 n = [] from rfl, List.append_nil]; exact HR), HB⟩
  case round =>
    obtain ⟨i, hi, rfl, hr, hb⟩ := hrel
    clear HR HB
    by_cases hlt : i < many
    · have hl := numL_length (n := n) hi
      obtain ⟨vv, qv⟩ : ∃ vv, wr.cell? ⟨w.heap.size, many - 1 - i, none⟩ = some vv := ⟨_, hr.out.cell (many - 1 - i) (by omega)⟩
      have qf := hr.out.free
      clear hl
      go_wp2_with fail
      go_round
      case rel =>
        rw [byte_of]
        refine ⟨i + 1, by omega, by go_num, (show Hid _ from ?_), (show Below _ _ _ from hb.out.trans ((keep_set wr w.heap.size (many - 1 - i) _).below hb.out.size (fun b hb => by omega)))⟩
        have := hr.out.set (many - 1 - i) (UInt8.ofNat (n / 256 ^ i)) (by rw [numL_length hi]; omega)
        rw [numL_succ hlt] at this
        exact this
      case measure => simp [intOf]; omega
    · have e : i = many := by omega
      subst e
      have hcv := run_bytes_str wr w.heap.size 0 i (numL i n i) (fun j hj => by rw [Nat.zero_add]; exact hr.out.cell j hj)
      rw [numL_length (Nat.le_refl _)] at hcv
      have HE : Hid (numL i n i = beB i n) := (show numL i n i = beB i n from by simp [numL])
      go_wp2_with fail
      go_ret
      exact ⟨by rw [HE.out]; rfl, hb.out⟩

/-! ### Numbers read -/
theorem readB_take (l : List UInt8) (k : Nat) (hk : k < l.length) : readB (l.take (k + 1)) = 256 * readB (l.take k) + l[k].toNat := by
  rw [List.take_succ_eq_append_getElem hk, readB_snoc]
theorem i64_or_nat (a b : Nat) (ha : a < 9223372036854775808) (hb : b < 9223372036854775808) : bits .or .i64 (a : Int) (b : Int) = ((a ||| b : Nat) : Int) := by
  have hx : a ||| b < 2 ^ 63 := Nat.or_lt_two_pow (by omega) (by omega)
  show IntKind.i64.wrap ((BitVec.ofInt 64 (a : Int) ||| BitVec.ofInt 64 (b : Int)).toNat : Int) = _
  rw [BitVec.toNat_or, ofInt_u64 a (by omega), ofInt_u64 b (by omega)]
  exact IntWalk.i64_in _ (by omega)
theorem or_byte (c b : Nat) (hc : c < 1099511627776) (hb : b < 256) : bits .or .i64 ((c : Int) * 256) (wrap64 (b : Int)) = ((256 * c + b : Nat) : Int) := by
  rw [show wrap64 (b : Int) = (b : Int) from IntWalk.wrap64_in _ (by omega), show (c : Int) * 256 = ((256 * c : Nat) : Int) by omega, i64_or_nat _ _ (by omega) (by omega), nat_join 8 _ _ (by omega) (by omega)]
set_option maxHeartbeats 1000000 in
theorem ringRead_any (s : ByteArray) (hs : s.size ≤ 6) (w : World) : Calls Tryz.prog 118 #[.string s] w fun e w' => e = .returned (.int .i64 (readB s.data.toList : Nat)) ∧ w = w' := by
  have hlen : s.data.toList.length = s.size := rfl
  have HLEN := Lib.hid hlen
  clear hlen
  go_enter Tryz.func118, Tryz.ntmps118
  go_wp2_with fail
  go_loop [3, 7] (fun s3 s7 => ∃ k : Nat, k ≤ s.size ∧ s3 = .int .i64 (readB (s.data.toList.take k) : Nat) ∧ s7 = .int .i64 k) (fun _ s7 => s.size - (intOf s7).toNat)
  case atStart => exact ⟨0, Nat.zero_le _, rfl, rfl⟩
  case round =>
    obtain ⟨k, hk, rfl, rfl⟩ := hrel
    by_cases hlt : k < s.size
    · have hT := Lib.hid (readB_take s.data.toList k (by rw [HLEN.out]; exact hlt))
      have hb := readB_lt (s.data.toList.take k)
      have hbl : (s.data.toList.take k).length ≤ 5 := by simp; omega
      have hb2 : readB (s.data.toList.take k) < 1099511627776 := Nat.lt_of_lt_of_le hb (Nat.pow_le_pow_right (n := 256) (by decide) hbl)
      obtain ⟨c, hcc⟩ : ∃ c, c = readB (s.data.toList.take k) := ⟨_, rfl⟩
      rw [← hcc] at hb2 hT ⊢
      have hO := or_byte c s[k].toNat hb2 s[k].toNat_lt
      clear hb hbl hcc
      go_wp2_with fail
      go_round
      case rel => exact ⟨k + 1, by omega, by rw [hT.out]; rfl, by go_num⟩
      case measure => simp [intOf]; omega
    · have HE : Hid (readB (s.data.toList.take k) = readB s.data.toList) := (show readB (s.data.toList.take k) = readB s.data.toList from by rw [List.take_of_length_le (by rw [HLEN.out]; omega)])
      go_wp2_with fail
      go_ret
      exact ⟨ret_int (by rw [HE.out]), rfl⟩
end Go.Proofs.YtakjbjokekbmbaaGreatDoor
