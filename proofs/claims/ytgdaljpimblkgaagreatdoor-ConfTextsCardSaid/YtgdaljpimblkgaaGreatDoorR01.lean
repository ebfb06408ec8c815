/- Plain tools: what a law's row asks of its walk; memory that stays but for some blocks. -/
import Derived.Test.YtgdaljpimblkgaaGreatDoorRows
import Derived.WalkKit
import Derived.WalkSpells
import Derived.WalkLawsBesides
import Derived.Lib.Hide
import Derived.ProofKit
import Derived.OpenShut
import Derived.Deep.Slices
import Derived.Laws.AppendOwnNone
import Derived.Laws.AppendOwn
import Derived.Deep.RegionLaw
import Derived.Deep.DeepCutAuto
import Derived.Deep.QuietTactic
import Derived.Deep.DeepMust
import Derived.BigQuiet
namespace Go.Proofs.YtgdaljpimblkgaaGreatDoor
open Go.ChangeShapes Go.WideShapes Go.ChangeAt Go.RowKit

/-- All arguments read as they did, where below the heap's old size nothing has turned. -/
theorem trodAll_below {H : Type} {enc : TypeId × Value → H} {P : Program} (hl : laidOutB P = true) {W W' : World} (hb : Below W.heap.size W W') {sp : Nat → Bool} :
    ∀ {ts : List TypeId} {vs : List Value} {ds : List (DataW H)} {ps : List MemPlace}, (∀ t ∈ ts, P.readableRec t = true ∧ t < P.types.size) → DataW.TrodAll enc P W 0 (fun _ => true) true ts vs ds ps →
      (∀ x ∈ ps, x.block < W.heap.size ∧ sp x.block = true) → DataW.TrodAll enc P W' 0 sp true ts vs ds ps
  | [], _, _, _, _, h, _ => by
    obtain ⟨rfl, rfl, rfl⟩ := trodAll_nil h
    exact rfl
  | t :: ts, _, _, _, hr, h, hlt => by
    obtain ⟨v, vs, d, ds, p, q, rfl, rfl, rfl, h1, h2⟩ := trodAll_cons h
    have ht := hr t (by simp)
    refine ⟨p, q, ?_, trodAll_below hl hb (fun t h => hr t (by simp [h])) h2 (fun x hx => hlt x (by simp [hx])), rfl⟩
    exact WideElems.Trod_stays hl ht.1 ht.2 h1 (fun x hx => hb.same (hlt x (by simp [hx])).1) (fun x hx => (hlt x (by simp [hx])).2)

/-- What a law's row asks behind the call, out of: it returned true, and below the heap's old size nothing has turned. -/
theorem post_law {H : Type} {enc : TypeId × Value → H} {P : Program} {f : Func} {s : ChangeSpec} {W W' : World} {args : Array Value} {ds : List (DataW H)} {before : List MemPlace} {tb : TypeId}
    (hl : laidOutB P = true) (hr : f.params.toList.all (fun t => P.readableRec t && decide (t < P.types.size)) = true) (hvars : s.vars = []) (hres : f.resultTypes = #[tb]) (htb : P.underlying tb = some .bool)
    (hW : DataW.Whole enc P f.params.toList s.vars false W args.toList ds [] before) (hfn : s.fn H ds = { results := [.lit (.bool true)], args := ds }) (hb : Below W.heap.size W W') :
    s.post enc P f false true false false W args (.bool true) W' := by
  have hW0 := hW
  obtain ⟨p, q, hA, hV, rfl, _, _⟩ := hW
  rw [hvars] at hV
  obtain ⟨_, rfl⟩ := trodVars_none hV
  have hr' : ∀ t ∈ f.params.toList, P.readableRec t = true ∧ t < P.types.size := fun t ht => by
    have := List.all_eq_true.1 hr t ht
    simpa using this
  have hlt : ∀ x ∈ p, x.block < W.heap.size := fun x hx => by
    have := hW0.lt x (by simp [hx])
    simpa using this
  have hfn' : s.fn H (ds ++ []) = { results := [.lit (.bool true)], args := ds } := by rw [List.append_nil]; exact hfn
  refine ⟨ds, [], p ++ [], [], p, [], hW0, ?_, ?_, ?_, ?_, fun h => by cases h⟩
  · rw [hres, hfn']
    exact trodAll_cons_mk (shut_bool htb _) trodAll_mk0
  · rw [hfn']
    exact trodAll_below hl hb hr' hA (fun x hx => ⟨hlt x hx, by simpa using hlt x hx⟩)
  · rw [hfn', hvars]
    exact rfl
  · exact hb.frame _

theorem ret_int {k : IntKind} {a b : Int} (h : a = b) : Ending.returned (.int k a) = .returned (.int k b) := by rw [h]
theorem ret_bool {a b : Bool} (h : a = b) : Ending.returned (.bool a) = .returned (.bool b) := by rw [h]
theorem val_bool {a b : Bool} (h : a = b) : Value.bool a = .bool b := by rw [h]

/-! ### Memory that stays but for some blocks -/

/-- w' is w but for the blocks of S, and for new ones. -/
structure Keep (S : Nat → Prop) (w w' : World) : Prop where
  os : w'.os = w.os
  tape : w'.tape = w.tape
  output : w'.output = w.output
  size : w.heap.size ≤ w'.heap.size
  block : ∀ k, k < w.heap.size → ¬ S k → w'.heap[k]? = w.heap[k]?
theorem Keep.refl (S : Nat → Prop) (w : World) : Keep S w w := ⟨rfl, rfl, rfl, Nat.le_refl _, fun _ _ _ => rfl⟩
theorem Keep.trans {S : Nat → Prop} {a b c : World} (h : Keep S a b) (k : Keep S b c) : Keep S a c :=
  ⟨k.os.trans h.os, k.tape.trans h.tape, k.output.trans h.output, Nat.le_trans h.size k.size, fun i hi hs => (k.block i (Nat.lt_of_lt_of_le hi h.size) hs).trans (h.block i hi hs)⟩
theorem Keep.mono {S T : Nat → Prop} {w w' : World} (h : Keep S w w') (hs : ∀ k, k < w.heap.size → S k → T k) : Keep T w w' :=
  ⟨h.os, h.tape, h.output, h.size, fun k hk ht => h.block k hk (fun x => ht (hs k hk x))⟩
theorem Keep.drew {S : Nat → Prop} {a w : World} (h : Keep S a w) : Keep S a w.drew := ⟨h.os, h.tape, h.output, h.size, h.block⟩
theorem Keep.alloc {S : Nat → Prop} {a w : World} (h : Keep S a w) (o : Obj) : Keep S a (w.alloc o) :=
  h.trans ⟨rfl, rfl, rfl, by simp, fun k hk _ => Below.heap_alloc _ _ _ hk⟩
theorem Keep.setCell {S : Nat → Prop} {a w : World} (h : Keep S a w) {p : Addr} (hp : p.block < a.heap.size → S p.block) (u : Value) : Keep S a (w.setCell p u) :=
  ⟨h.os, h.tape, h.output, by simpa [World.setCell] using h.size, fun k hk hs => (Below.heap_setCell _ _ _ _ (fun e => by subst e; exact hs (hp hk))).trans (h.block k hk hs)⟩
theorem keep_set (w : World) (b o : Nat) (u : Value) : Keep (· = b) w (w.setCell ⟨b, o, none⟩ u) :=
  Keep.setCell (S := (· = b)) (p := ⟨b, o, none⟩) (Keep.refl _ _) (fun _ => rfl) u
theorem keep_more {b : Nat} {w0 w : World} (h : Keep (· = b) w0 w) (o : Nat) (u : Value) : Keep (· = b) w0 (w.setCell ⟨b, o, none⟩ u) :=
  Keep.setCell (S := (· = b)) (p := ⟨b, o, none⟩) h (fun _ => rfl) u
/-- A step into memory that is one's own, or new. -/
theorem Keep.step {S T : Nat → Prop} {a w w' : World} (h : Keep S a w) (k : Keep T w w') (hT : ∀ b, T b → b < a.heap.size → S b) : Keep S a w' :=
  ⟨k.os.trans h.os, k.tape.trans h.tape, k.output.trans h.output, Nat.le_trans h.size k.size, fun i hi hs => (k.block i (Nat.lt_of_lt_of_le hi h.size) (fun t => hs (hT i t hi))).trans (h.block i hi hs)⟩
theorem Keep.below {S : Nat → Prop} {w w' : World} (h : Keep S w w') {B : Nat} (hB : B ≤ w.heap.size) (hs : ∀ k, S k → B ≤ k) : Below B w w' :=
  ⟨h.os, h.tape, h.output, h.size, fun k hk => h.block k (by omega) (fun x => by have := hs k x; omega)⟩
theorem Keep.of_below {B : Nat} {w w' : World} (h : Below B w w') : Keep (fun k => B ≤ k) w w' := ⟨h.os, h.tape, h.output, h.size, fun k _ hs => h.block k (by omega)⟩
theorem Keep.of_grown {w w' : World} {row : Option Nat} (h : w.grownBy w' row) : Keep (fun k => some k = row) w w' := ⟨h.os, h.tape, h.output, h.size, fun k hk hs => h.block k hk hs⟩
theorem Keep.new {w w' : World} (h : Keep (fun _ => False) w w') : Below w.heap.size w w' := ⟨h.os, h.tape, h.output, h.size, fun k hk => h.block k hk (fun x => x)⟩
theorem below_keep {w w' : World} (h : Below w.heap.size w w') : Keep (fun _ => False) w w' := ⟨h.os, h.tape, h.output, h.size, fun k hk _ => h.block k hk⟩
theorem Keep.cell {S : Nat → Prop} {w w' : World} (h : Keep S w w') {p : Addr} (hp : p.block < w.heap.size) (hs : ¬ S p.block) : w'.cell? p = w.cell? p := World.cell?_of_block (w := w) (h.block p.block hp hs)
theorem Keep.get {S : Nat → Prop} {w w' : World} (h : Keep S w w') {b : Nat} {o : Obj} (hb : w.heap[b]? = some o) (hs : ¬ S b) : w'.heap[b]? = some o := by
  rw [h.block b (Array.getElem?_eq_some_iff.1 hb).1 hs]; exact hb
theorem below_get {B : Nat} {w w' : World} (h : Below B w w') {b : Nat} {o : Obj} (hb : w.heap[b]? = some o) (hs : b < B) : w'.heap[b]? = some o := by
  rw [h.block b hs]; exact hb
theorem lt_of_get {w : World} {b : Nat} {o : Obj} (hb : w.heap[b]? = some o) : b < w.heap.size := (Array.getElem?_eq_some_iff.1 hb).1

theorem get_drewN {w : World} {b : Nat} {o : Obj} (n : Nat) (h : w.heap[b]? = some o) : (w.drewN n).heap[b]? = some o := h
theorem below_drewN' {B : Nat} {w0 w : World} (n : Nat) (h : Below B w0 w) : Below B w0 (w.drewN n) := ⟨h.os, h.tape, h.output, h.size, h.block⟩
theorem keep_drewN {S : Nat → Prop} {w0 w : World} (n : Nat) (h : Keep S w0 w) : Keep S w0 (w.drewN n) := ⟨h.os, h.tape, h.output, h.size, h.block⟩
/-- A store into a block that is known whole. -/
theorem get_setCell {w : World} {b o : Nat} {cs : Array Value} {t : TypeId} {fr : Nat × Nat} (u : Value) (hb : w.heap[b]? = some (.cells cs t fr)) : (w.setCell ⟨b, o, none⟩ u).heap[b]? = some (.cells (cs.setIfInBounds o u) t fr) := by
  simp [World.setCell, Array.getElem?_modify, hb]
theorem get_alloc_new (w : World) (o : Obj) : (w.alloc o).heap[w.heap.size]? = some o := heap_alloc_new w o
theorem get_alloc_old {w : World} {b : Nat} {x : Obj} (o : Obj) (hb : w.heap[b]? = some x) : (w.alloc o).heap[b]? = some x := by
  rw [Below.heap_alloc _ _ _ (lt_of_get hb)]; exact hb
theorem get_drew {w : World} {b : Nat} : w.drew.heap[b]? = w.heap[b]? := rfl

theorem ownsRow_keep {S : Nat → Prop} {w w' : World} {base : Nat} {e : TypeId} {size : Nat} {v : Value} {n : Nat} {xs : List Value} (h : w.ownsRow base e size v n xs) (hk : Keep S w w') (hS : ∀ b, S b → b < base) : w'.ownsRow base e size v n xs := by
  refine ⟨h.1, ?_⟩
  rcases h.2 with hn | ⟨g, cap, cur, rfl, hb, hgg, rest⟩
  · exact .inl hn
  · exact .inr ⟨g, cap, cur, rfl, hb, hk.get hgg (fun hs => by have := hS g hs; omega), rest⟩
theorem ownsRow_keep' {S : Nat → Prop} {w w' : World} {base : Nat} {e : TypeId} {size : Nat} {v : Value} {n : Nat} {xs : List Value} (h : w.ownsRow base e size v n xs) (hk : Keep S w w') (hS : ∀ b, base ≤ b → b < w.heap.size → ¬ S b) : w'.ownsRow base e size v n xs := by
  refine ⟨h.1, ?_⟩
  rcases h.2 with hn | ⟨g, cap, cur, rfl, hb, hgg, rest⟩
  · exact .inl hn
  · exact .inr ⟨g, cap, cur, rfl, hb, hk.get hgg (hS g hb (lt_of_get hgg)), rest⟩

/-! ### A slice's cells -/

/-- v is a slice of n elements of sz cells each; its cells are cs; they lie in a block of R. -/
def SlOf (R : Nat → Prop) (w : World) (v : Value) (sz : Nat) (cs : List Value) (n : Nat) : Prop :=
  cs.length = n * sz ∧ ∃ (ao : Option Addr) (cap : Nat), v = .slice ao n cap ∧ n ≤ cap ∧ cap ≤ maxLen ∧ (ao = none → cap = 0) ∧
    (0 < cs.length → ∃ b off, ao = some ⟨b, off, none⟩ ∧ R b ∧ b < w.heap.size ∧ ∀ k u, cs[k]? = some u → w.cell? ⟨b, off + k, none⟩ = some u)

theorem SlOf.keep {R S : Nat → Prop} {w w' : World} {v : Value} {sz : Nat} {cs : List Value} {n : Nat} (h : SlOf R w v sz cs n) (hk : Keep S w w') (hd : ∀ b, R b → ¬ S b) : SlOf R w' v sz cs n := by
  obtain ⟨hl, ao, cap, hv, h1, h2, h3, h4⟩ := h
  refine ⟨hl, ao, cap, hv, h1, h2, h3, fun hp => ?_⟩
  obtain ⟨b, off, ha, hR, hb, hc⟩ := h4 hp
  exact ⟨b, off, ha, hR, Nat.lt_of_lt_of_le hb hk.size, fun k u hu => by rw [hk.cell hb (hd b hR)]; exact hc k u hu⟩
theorem SlOf.mono {R S : Nat → Prop} {w : World} {v : Value} {sz : Nat} {cs : List Value} {n : Nat} (h : SlOf R w v sz cs n) (hd : ∀ b, R b → S b) : SlOf S w v sz cs n := by
  obtain ⟨hl, ao, cap, hv, h1, h2, h3, h4⟩ := h
  refine ⟨hl, ao, cap, hv, h1, h2, h3, fun hp => ?_⟩
  obtain ⟨b, off, ha, hR, hb, hc⟩ := h4 hp
  exact ⟨b, off, ha, hd b hR, hb, hc⟩
theorem SlOf.below {B : Nat} {R : Nat → Prop} {w w' : World} {v : Value} {sz : Nat} {cs : List Value} {n : Nat} (h : SlOf R w v sz cs n) (hk : Below B w w') (hd : ∀ b, R b → b < B) : SlOf R w' v sz cs n :=
  h.keep (Keep.of_below hk) (fun b hb => by have := hd b hb; omega)
theorem SlOf.nil (R : Nat → Prop) (w : World) (sz : Nat) : SlOf R w (.slice none 0 0) sz [] 0 := ⟨by simp, none, 0, rfl, by omega, by simp [maxLen], fun _ => rfl, fun h => by simp at h⟩

theorem flat_get {α β : Type} (f : α → List β) (sz : Nat) (hf : ∀ x, (f x).length = sz) : ∀ (l : List α) (k : Nat) (hk : k < l.length) (j : Nat), j < sz → (l.flatMap f)[k * sz + j]? = (f l[k])[j]?
  | [], k, hk, _, _ => by simp at hk
  | x :: l, 0, _, j, hj => by
    rw [List.flatMap_cons, List.getElem?_append_left (by rw [hf]; omega)]
    simp
  | x :: l, k + 1, hk, j, hj => by
    rw [List.flatMap_cons, List.getElem?_append_right (by rw [hf, Nat.add_mul]; omega), hf]
    have := flat_get f sz hf l k (by simpa using hk) j hj
    rw [show (k + 1) * sz + j - sz = k * sz + j from by rw [Nat.add_mul]; omega]
    simpa using this
theorem flat_len {α β : Type} (f : α → List β) (sz : Nat) (hf : ∀ x, (f x).length = sz) (l : List α) : (l.flatMap f).length = l.length * sz := by
  induction l with
  | nil => simp
  | cons x l ih => rw [List.flatMap_cons, List.length_append, hf, ih, List.length_cons, Nat.add_mul]; omega

/-- Element k of a slice: where it lies. -/
theorem SlOf.elem {α : Type} {f : α → List Value} {R : Nat → Prop} {w : World} {ao : Option Addr} {n cap sz : Nat} {l : List α} (h : SlOf R w (.slice ao n cap) sz (l.flatMap f) l.length) (hf : ∀ x, (f x).length = sz) (hsz : 0 < sz) (h0 : 0 < l.length) :
    ∃ b off, ao = some ⟨b, off, none⟩ ∧ R b ∧ b < w.heap.size ∧ ∀ k (hk : k < l.length) j u, (f l[k])[j]? = some u → w.cell? ⟨b, off + k * sz + j, none⟩ = some u := by
  obtain ⟨hl, ao', cap', hv, h1, h2, h3, h4⟩ := h
  obtain ⟨rfl, rfl, rfl⟩ := hv
  obtain ⟨b, off, ha, hR, hb, hc⟩ := h4 (by rw [hl]; exact Nat.mul_pos h0 hsz)
  refine ⟨b, off, ha, hR, hb, fun k hk j u hu => ?_⟩
  have hj : j < sz := by rw [← hf l[k]]; exact (List.getElem?_eq_some_iff.1 hu).1
  rw [Nat.add_assoc]
  exact hc _ _ (by rw [flat_get f sz hf l k hk j hj]; exact hu)

theorem addr_add (b off k : Nat) : (⟨b, off, none⟩ : Addr).add k = ⟨b, off + k, none⟩ := by unfold Addr.add; split <;> simp_all

theorem new_cells (w : World) (l : List Value) (t : TypeId) : ∀ j u, l[j]? = some u → (w.alloc (.cells l.toArray t)).cell? ((⟨w.heap.size, 0, none⟩ : Addr).add j) = some u := by
  intro j u hu
  have h := get_alloc_new w (.cells l.toArray t)
  rw [addr_add, Nat.zero_add, cell_of_row _ _ j _ _ _ h]
  simpa using hu

/-- append(nil, x...): a copy of one's own. -/
theorem wpList_append_copy {P : Program} {w : World} {ops : Array Oper} {rest : List Oper} {o : Oper} {a : Act} {Q : Exit → Act → World → Prop} (hgd : o.guard = none) (s x : Operand) (t : TypeId)
    (ho : o.op = .call { callee := .builtin .append, args := #[s, x], argTypes := #[t, t] })
    (e : TypeId) (i : TypeInfo) (z : Value) (size bytes : Nat) (ht : P.underlying t = some (.slice e)) (hi : P.info? e = some i) (hz : i.zero = some z)
    (hsize : i.size = size) (hby : i.bytes = bytes) (hzs : z.cells.size = size) (hsz : 0 < size)
    (hs : a.eval s = .slice none 0 0) (R : Nat → Prop) (v : Value) (n : Nat) (cs : List Value) (hx : a.eval x = v) (hsl : SlOf R w v size cs n) (h1 : ∀ u ∈ cs, u.oneCell' = true) (hbytes : n * bytes ≤ 140737488355328)
    (h : ∀ ao cap w', SlOf (fun b => w.heap.size ≤ b) w' (.slice ao n cap) size cs n → Below w.heap.size w w' → wpList P ops Q rest (a.put o.dst (.slice ao n cap)) w') : wpList P ops Q (o :: rest) a w := by
  obtain ⟨hl, ao, cap, rfl, hnc, hcm, hnone, hcells⟩ := hsl
  cases ao with
  | none =>
    obtain rfl := hnone rfl
    obtain rfl : n = 0 := by omega
    obtain rfl : cs = [] := List.eq_nil_of_length_eq_zero (by simpa using hl)
    refine wpList_append_own_none hgd s x t ho w.heap.size e i size ht hi (.slice none 0 0) 0 [] hs (World.ownsRow_nil _ _ _ _) hx ?_
    exact h none 0 w (SlOf.nil _ _ _) (Below.refl _ _)
  | some ad =>
    have hnews : ∀ j u, cs[j]? = some u → w.cell? (ad.add j) = some u := by
      intro j u hu
      have hj : j < cs.length := (List.getElem?_eq_some_iff.1 hu).1
      obtain ⟨b, off, ha, _, _, hc⟩ := hcells (by omega)
      obtain rfl := Option.some.inj ha
      rw [addr_add]
      exact hc j u hu
    refine wpList_append_own w hgd s x t ho w.heap.size e i z size bytes ht hi hz hsize hby hzs hsz (.slice none 0 0) 0 [] hs (World.ownsRow_nil _ _ _ _) ad n cap cs hx hl hnews h1 (by omega) (by rw [Nat.zero_add]; omega) (Nat.le_refl _) ?_
    intro v' w' hown hg hnil
    rw [Nat.zero_add, List.nil_append] at hown
    have hb : Below w.heap.size w w' := (Below.refl _ _).grown hg (Nat.le_refl _) (fun k hk => by cases hk)
    obtain ⟨hlen, hv⟩ := hown
    rcases hv with ⟨rfl, rfl⟩ | ⟨g, cap', cur, rfl, hbg, hgg, hn', hcm', hcs, htake⟩
    · obtain rfl : cs = [] := List.eq_nil_of_length_eq_zero (by simpa using hlen)
      exact h none 0 w' (SlOf.nil _ _ _) hb
    · refine h (some ⟨g, 0, none⟩) cap' w' ⟨hlen, _, _, rfl, hn', hcm', (by intro h; cases h), fun hp => ⟨g, 0, rfl, hbg, lt_of_get hgg, fun k u hu => ?_⟩⟩ hb
      rw [Nat.zero_add, cell_of_row w' g k cur e (0, 0) hgg]
      rw [← htake, List.getElem?_take] at hu
      split at hu
      · simpa using hu
      · cases hu

end Go.Proofs.YtgdaljpimblkgaaGreatDoor

/- Laws for walks that are not of one package: appends, slices, blocks. -/
namespace Go.Proofs.YtgdaljpimblkgaaGreatDoor
open Go.RowKit
set_option linter.unusedVariables false

/-- append onto a slice of one's own, as one step of a region that draws. -/
theorem step_append_own {P : Program} {w : World} {ops : Array Oper} {o : Oper} {a : Act} {K : Act → World → Prop} {Q : Exit → Act → World → Prop} {E : Prop} (hgd : o.guard = none) (s x : Operand) (t : TypeId)
    (ho : o.op = .call { callee := .builtin .append, args := #[s, x], argTypes := #[t, t] })
    (base : Nat) (e : TypeId) (i : TypeInfo) (z : Value) (size bytes : Nat) (ht : P.underlying t = some (.slice e)) (hi : P.info? e = some i) (hz : i.zero = some z)
    (hsize : i.size = size) (hby : i.bytes = bytes) (hzs : z.cells.size = size) (hsz : 0 < size)
    (v : Value) (n : Nat) (xs : List Value) (hs : a.eval s = v) (hown : w.ownsRow base e size v n xs)
    (ad : Addr) (m c : Nat) (news : List Value) (hx : a.eval x = .slice (some ad) m c) (hl : news.length = m * size) (hnews : ∀ j u, news[j]? = some u → w.cell? (ad.add j) = some u) (h1 : ∀ u ∈ news, u.oneCell' = true)
    (h63 : n + m ≤ maxLen) (hbytes : (n + m) * bytes ≤ 140737488355328) (hbase : base ≤ w.heap.size)
    (h : ∀ ao cap w', w'.ownsRow base e size (.slice ao (n + m) cap) (n + m) (xs ++ news) → w.grownBy w' v.ownBlock → K (a.put o.dst (.slice ao (n + m) cap)) w') :
    if Region.wanted o (yielded ops a.tmps) = true then Oper.wp P o a w K Q else E := by
  have hw : Region.wanted o (yielded ops a.tmps) = true := by simp [Region.wanted, hgd]
  rw [if_pos hw]
  refine wp_append_own w s x t ho base e i z size bytes ht hi hz hsize hby hzs hsz v n xs hs hown ad m c news hx hl hnews h1 h63 hbytes hbase ?_
  intro v' w' ho' hg _
  rcases ho'.2 with ⟨hv, hn⟩ | ⟨g, cap, cur, hv, _⟩
  · rw [hv] at ho' ⊢
    have := h none 0 w' (by rw [hn] at ho' ⊢; exact ho') hg
    rw [hn] at this; exact this
  · rw [hv] at ho' ⊢
    exact h _ _ w' ho' hg

theorem ownsRow_keepO {S : Nat → Prop} {w w' : World} {base : Nat} {e : TypeId} {size : Nat} {v : Value} {n : Nat} {xs : List Value} (h : w.ownsRow base e size v n xs) (hk : Keep S w w') (hS : ∀ b, v.ownBlock = some b → ¬ S b) : w'.ownsRow base e size v n xs := by
  refine ⟨h.1, ?_⟩
  rcases h.2 with hn | ⟨g, cap, cur, rfl, hb, hgg, rest⟩
  · exact .inl hn
  · exact .inr ⟨g, cap, cur, rfl, hb, hk.get hgg (hS g rfl), rest⟩

theorem cell_old {w : World} {a : Addr} {v : Value} (h : w.cell? a = some v) (o : Obj) : (w.alloc o).cell? a = some v := by
  have hb := World.block_lt_of_cell? w a h
  rw [World.cell?_of_block (w := w) (Below.heap_alloc _ _ _ hb)]; exact h

theorem two_cells {w : World} {b : Nat} {c0 c1 : Value} {t : TypeId} (h : w.heap[b]? = some (.cells #[c0, c1] t)) :
    w.cell? ⟨b, 0, none⟩ = some c0 ∧ w.cell? ⟨b, 1, none⟩ = some c1 ∧ ∀ o, w.frozen? ⟨b, o, none⟩ = false := by
  simp [World.cell?, World.frozen?, h]

/-- Behind an append onto another row: a block of two cells stays. -/
theorem grown_two {W w1 : World} {g : Nat} {c0 c1 : Value} {t : TypeId} {o : Option Nat} (hg : W.grownBy w1 o) (hh : W.heap[g]? = some (.cells #[c0, c1] t)) (hne : o ≠ some g) :
    w1.heap[g]? = some (.cells #[c0, c1] t) := by
  rw [hg.block g (lt_of_get hh) (fun e => hne e.symm)]; exact hh

theorem slOf_alloc (w : World) (l : List Value) (t : TypeId) (sz n : Nat) (hl : l.length = n * sz) (hn : n ≤ maxLen) : SlOf (· = w.heap.size) (w.alloc (.cells l.toArray t)) (.slice (some ⟨w.heap.size, 0, none⟩) n n) sz l n := by
  refine ⟨hl, _, _, rfl, Nat.le_refl _, hn, (fun h => by cases h), fun _ => ⟨w.heap.size, 0, rfl, rfl, by simp, fun k u hu => ?_⟩⟩
  have := new_cells w l t k u hu
  rwa [addr_add] at this

theorem slOf_owns {w : World} {base : Nat} {e : TypeId} {size : Nat} {v : Value} {n : Nat} {xs : List Value} (h : w.ownsRow base e size v n xs) : SlOf (fun b => base ≤ b) w v size xs n := by
  obtain ⟨hl, hv⟩ := h
  rcases hv with ⟨rfl, rfl⟩ | ⟨g, cap, cur, rfl, hb, hg, h1, h2, _, htake⟩
  · obtain rfl : xs = [] := List.eq_nil_of_length_eq_zero (by simpa using hl)
    exact SlOf.nil _ _ _
  · refine ⟨hl, _, _, rfl, h1, h2, (fun h => by cases h), fun _ => ⟨g, 0, rfl, hb, lt_of_get hg, fun k u hu => ?_⟩⟩
    rw [Nat.zero_add, cell_of_row w g k cur e (0, 0) hg]
    rw [← htake, List.getElem?_take] at hu
    split at hu
    · simpa using hu
    · cases hu

theorem four_cells {w : World} {b : Nat} {c0 c1 c2 c3 : Value} {t : TypeId} (h : w.heap[b]? = some (.cells #[c0, c1, c2, c3] t)) :
    w.cell? ⟨b, 0, none⟩ = some c0 ∧ w.cell? ⟨b, 1, none⟩ = some c1 ∧ w.cell? ⟨b, 2, none⟩ = some c2 ∧ w.cell? ⟨b, 3, none⟩ = some c3 := by
  simp [World.cell?, h]

theorem wpList_append_ownS {P : Program} {w : World} {ops : Array Oper} {rest : List Oper} {o : Oper} {a : Act} {Q : Exit → Act → World → Prop} (hgd : o.guard = none) (s x : Operand) (t : TypeId)
    (ho : o.op = .call { callee := .builtin .append, args := #[s, x], argTypes := #[t, t] })
    (base : Nat) (e : TypeId) (i : TypeInfo) (z : Value) (size bytes : Nat) (ht : P.underlying t = some (.slice e)) (hi : P.info? e = some i) (hz : i.zero = some z)
    (hsize : i.size = size) (hby : i.bytes = bytes) (hzs : z.cells.size = size) (hsz : 0 < size)
    (v : Value) (n : Nat) (xs : List Value) (hs : a.eval s = v) (hown : w.ownsRow base e size v n xs)
    (ad : Addr) (m c : Nat) (news : List Value) (hx : a.eval x = .slice (some ad) m c) (hl : news.length = m * size) (hnews : ∀ j u, news[j]? = some u → w.cell? (ad.add j) = some u) (h1 : ∀ u ∈ news, u.oneCell' = true)
    (h63 : n + m ≤ maxLen) (hbytes : (n + m) * bytes ≤ 140737488355328) (hbase : base ≤ w.heap.size)
    (h : ∀ ao cap w', w'.ownsRow base e size (.slice ao (n + m) cap) (n + m) (xs ++ news) → w.grownBy w' v.ownBlock → wpList P ops Q rest (a.put o.dst (.slice ao (n + m) cap)) w') :
    wpList P ops Q (o :: rest) a w := by
  refine wpList_append_own w hgd s x t ho base e i z size bytes ht hi hz hsize hby hzs hsz v n xs hs hown ad m c news hx hl hnews h1 h63 hbytes hbase ?_
  intro v' w' ho' hg _
  rcases ho'.2 with ⟨hv, hn⟩ | ⟨g, cap, cur, hv, _⟩
  · rw [hv] at ho' ⊢
    have := h none 0 w' (by rw [hn] at ho' ⊢; exact ho') hg
    rw [hn] at this; exact this
  · rw [hv] at ho' ⊢
    exact h _ _ w' ho' hg

theorem SlOf.here {R : Nat → Prop} {w : World} {v : Value} {sz : Nat} {cs : List Value} {n : Nat} (h : SlOf R w v sz cs n) : SlOf (· < w.heap.size) w v sz cs n := by
  obtain ⟨hl, ao, cap, hv, h1, h2, h3, h4⟩ := h
  refine ⟨hl, ao, cap, hv, h1, h2, h3, fun hp => ?_⟩
  obtain ⟨b, off, ha, hR, hb, hc⟩ := h4 hp
  exact ⟨b, off, ha, hb, hb, hc⟩

theorem any_or {α : Type} (f g : α → Bool) (l : List α) : (l.any f || l.any g) = l.any (fun x => f x || g x) := by
  induction l with
  | nil => rfl
  | cons x l ih => simp only [List.any_cons, ← ih]; cases f x <;> cases g x <;> simp
end Go.Proofs.YtgdaljpimblkgaaGreatDoor
