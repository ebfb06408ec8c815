/- Plain: what conf's reader makes of lines. -/
import Derived.Test.YtgdaljpimblkgaaGreatDoorR17
import Derived.Test.YtgdaljpimblkgaaGreatDoorR18
import Derived.Test.YtgdaljpimblkgaaGreatDoorR19
import Derived.Test.YtgdaljpimblkgaaGreatDoorR04
import Derived.Test.YtgdaljpimblkgaaGreatDoorR01
import Derived.Laws.AppendOwn
namespace Go.Proofs.YtgdaljpimblkgaaGreatDoor
open Go.RowKit
set_option linter.unusedVariables false

structure RdS where
  c : ConfV
  stage : Int
def RdS.start : RdS := ⟨⟨0, 0, 0, 0, []⟩, -1⟩
def noE : EntV := ⟨ByteArray.empty, 0, [], -1, 0, 0, [], [], [], []⟩
def lastE (L : List EntV) : EntV := L.getLast?.getD noE
def newE (name : ByteArray) (tol : Int) : EntV := ⟨name, tol, [], -1, 0, 0, [], [], [], []⟩
def takeE (k : Nat) (name : ByteArray) (n : List Int) (E : EntV) : EntV :=
  if k = 4 then { E with points := E.points ++ [name] }
  else if k = 5 then { E with count := n.getD 0 0, mn := n.getD 1 0, mx := n.getD 2 0 }
  else if k = 6 then { E with gaps := E.gaps ++ [⟨n.getD 0 0, n.getD 1 0, n.getD 2 0, n.getD 3 0⟩] }
  else if k = 7 then { E with edges := E.edges ++ [(n.getD 0 0, n.getD 1 0)] }
  else if k = 8 then { E with first := E.first ++ [n.getD 0 0] }
  else if k = 9 then { E with last := E.last ++ [n.getD 0 0] }
  else E
def takeC (k : Nat) (name : ByteArray) (n : List Int) (C : ConfV) : ConfV :=
  if k = 0 then { C with closed := n.getD 0 0, opn := n.getD 1 0 }
  else if k = 1 then { C with cycle := n.getD 0 0 }
  else if k = 2 then { C with delay := n.getD 0 0 }
  else if k = 3 then { C with ents := C.ents ++ [newE name (n.getD 0 0)] }
  else { C with ents := C.ents.dropLast ++ [takeE k name n (lastE C.ents)] }

/-- The place of a text in a list; -1: it is not there. -/
def idxS (l : List ByteArray) (s : ByteArray) : Int := sidxOf l s
/-- One word of a line: what is known behind it; none: it is bad. -/
def wordStep (pts : List ByteArray) (f : UInt8) (t : ByteArray) (p : List Int × Bool) : Option (List Int × Bool) :=
  if f = 110 then (match numV t with | some k => some (p.1 ++ [(k : Int)], p.2) | none => none)
  else if t.size = 0 then none
  else if f = 112 then some (p.1 ++ [idxS pts t], p.2 || decide (idxS pts t < 0))
  else some p
def wordsUp (pts : List ByteArray) (fs : List UInt8) (ts : List ByteArray) : Nat → Option (List Int × Bool)
  | 0 => some ([], false)
  | k + 1 => match wordsUp pts fs ts k with
    | none => none
    | some p => wordStep pts (fs.getD k 0) (ts.getD k ByteArray.empty) p
theorem wordsUp_none {pts : List ByteArray} {fs : List UInt8} {ts : List ByteArray} {k : Nat} (h : wordsUp pts fs ts k = none) : ∀ m, k ≤ m → wordsUp pts fs ts m = none := by
  intro m
  induction m with
  | zero => intro hk; have hk0 : k = 0 := Nat.le_zero.1 hk; rw [hk0] at h; exact h
  | succ m ih =>
    intro hk
    by_cases he : k = m + 1
    · subst he; exact h
    · unfold wordsUp; rw [ih (by omega)]
/-- A line's words, its first one apart. -/
def lineW (s : ByteArray) : List ByteArray := piecesB 32 s
def lineHd (s : ByteArray) : ByteArray := (lineW s).headD ByteArray.empty
def lineFits (st : RdS) (s : ByteArray) : Bool := formOk (lineHd s) && rightB st.stage (formStage (lineHd s)) && ((lineW s).length - 1 == (formWords (lineHd s)).size)
def lineRes (st : RdS) (s : ByteArray) : Option (List Int × Bool) := wordsUp (lastE st.c.ents).points (formWords (lineHd s)).data.toList (lineW s).tail (formWords (lineHd s)).size
/-- What a line makes: an error's number, what is known behind it. -/
def lineR (st : RdS) (s : ByteArray) : Nat × RdS :=
  if lineFits st s = true then
    match lineRes st s with
    | none => (1, st)
    | some p => if p.2 = true then (5, st) else (0, ⟨takeC (formStage (lineHd s)) ((lineW s).getD 1 ByteArray.empty) p.1 st.c, formStage (lineHd s)⟩)
  else (1, st)
def linesUp (ls : List ByteArray) : Nat → RdS
  | 0 => RdS.start
  | k + 1 => (lineR (linesUp ls k) (ls.getD k ByteArray.empty)).2
def lineAt (ls : List ByteArray) (i : Nat) : Nat := (lineR (linesUp ls i) (ls.getD i ByteArray.empty)).1
def linesF (ls : List ByteArray) : Nat × Int := match (List.range ls.length).find? (fun i => lineAt ls i != 0) with | some i => (lineAt ls i, (i : Int)) | none => (0, -1)
theorem linesF_hit {L : List ByteArray} {k : Nat} (hk : k < L.length) (h : lineAt L k ≠ 0) (hb : ∀ j, j < k → lineAt L j = 0) : linesF L = (lineAt L k, (k : Int)) := by
  have : (List.range L.length).find? (fun i => lineAt L i != 0) = some k := by
    rw [List.find?_range_eq_some]
    refine ⟨by simpa using h, List.mem_range.2 hk, fun j hj => ?_⟩
    simp [hb j hj]
  unfold linesF
  rw [this]
theorem linesF_miss {L : List ByteArray} (h : ∀ j, j < L.length → lineAt L j = 0) : linesF L = (0, -1) := by
  have : (List.range L.length).find? (fun i => lineAt L i != 0) = none := by
    rw [List.find?_eq_none]
    intro i hi
    simp [h i (List.mem_range.1 hi)]
  unfold linesF
  rw [this]
/-- A text's lines: the last sign is none of a line's if it ends one. -/
def textCut (s : ByteArray) : ByteArray := if s.data.toList.getLast? = some 10 then s.extract 0 (s.size - 1) else s
def textLines (s : ByteArray) : List ByteArray := if s.size = 0 then [] else piecesB 10 (textCut s)
def zeroC : ConfV := ⟨0, 0, 0, 0, []⟩
/-- What a text makes: a config, or a fault. -/
def readF (s : ByteArray) : ConfV × (Nat × Int) :=
  if 8000 < s.size then (zeroC, (2, -1))
  else if (linesF (textLines s)).1 ≠ 0 then (zeroC, linesF (textLines s))
  else if (linesUp (textLines s) (textLines s).length).stage < 2 then (zeroC, (1, ((textLines s).length : Int)))
  else if (confF (linesUp (textLines s) (textLines s).length).c).1 ≠ 0 then (zeroC, confF (linesUp (textLines s) (textLines s).length).c)
  else ((linesUp (textLines s) (textLines s).length).c, (0, -1))
end Go.Proofs.YtgdaljpimblkgaaGreatDoor

/- append onto a row of one's own that does not begin at its block's first cell. -/
namespace Go.Proofs.YtgdaljpimblkgaaGreatDoor
open Go.RowKit
set_option linter.unusedVariables false

theorem run_append_room_off {P : Program} (w : World) (t ty e : TypeId) (i : TypeInfo) (ht : P.underlying t = some (.slice e)) (hi : P.info? e = some i)
    (g off sLen sCap : Nat) (cur : Array Value) (hg : w.heap[g]? = some (.cells cur e (0, 0)))
    (a : Addr) (m c : Nat) (news : List Value) (hl : news.length = m * i.size) (hnews : ∀ j u, news[j]? = some u → w.cell? (a.add j) = some u) (h1 : ∀ u ∈ news, u.oneCell' = true)
    (hroom : sLen + m ≤ sCap) (hfit : off + sLen * i.size + news.length ≤ cur.size) :
    (Builtin.append_ #[t, t] ty #[.slice (some ⟨g, off, none⟩) sLen sCap, .slice (some a) m c]).run P w =
      .ok (.slice (some ⟨g, off, none⟩) (sLen + m) sCap) (w.setRow g (cur.toList.take (off + sLen * i.size) ++ news ++ cur.toList.drop (off + sLen * i.size + news.length)).toArray) := by
  have hf := run_firstCells_some (P := P) w i.size m a m c news hl hnews
  have hst := run_storeCells_at P g (off + sLen * i.size) e news 0 cur w hg (by simpa using hfit) h1
  simp only [Nat.add_zero] at hst
  simp [Builtin.append_, run_underlying ht, sizeOf, typeInfo, hi, Builtin.lenOf, hroom, hf, addr_add, hst]

/-- A row of one's own, wherever it begins in its block. -/
def OwnAt (w : World) (base : Nat) (e : TypeId) (size : Nat) (v : Value) (n : Nat) (xs : List Value) : Prop :=
  xs.length = n * size ∧
  ((v = .slice none 0 0 ∧ n = 0) ∨
   ∃ g off cap cur, v = .slice (some ⟨g, off, none⟩) n cap ∧ base ≤ g ∧ w.heap[g]? = some (.cells cur e (0, 0)) ∧ n ≤ cap ∧ cap ≤ maxLen ∧ off + cap * size ≤ cur.size ∧ (cur.toList.drop off).take (n * size) = xs)
section
variable {w w' : World} {base : Nat} {e : TypeId} {size : Nat} {v : Value} {n : Nat} {xs : List Value}
theorem OwnAt.of_owns (h : w.ownsRow base e size v n xs) : OwnAt w base e size v n xs := by
  refine ⟨h.1, ?_⟩
  rcases h.2 with hn | ⟨g, cap, cur, h1, h2, h3, h4, h5, h6, h7⟩
  · exact .inl hn
  · exact .inr ⟨g, 0, cap, cur, h1, h2, h3, h4, h5, by omega, by simpa using h7⟩
theorem OwnAt.lt (h : OwnAt w base e size v n xs) : ∀ k, v.ownBlock = some k → base ≤ k ∧ k < w.heap.size := by
  intro k hk
  rcases h.2 with ⟨rfl, _⟩ | ⟨g, off, cap, cur, rfl, h2, h3, _⟩
  · cases hk
  · obtain rfl := Option.some.inj hk
    exact ⟨h2, lt_of_get h3⟩
theorem OwnAt.keep {S : Nat → Prop} (h : OwnAt w base e size v n xs) (k : Keep S w w') (hS : ∀ b, v.ownBlock = some b → ¬ S b) : OwnAt w' base e size v n xs := by
  refine ⟨h.1, ?_⟩
  rcases h.2 with hn | ⟨g, off, cap, cur, rfl, h2, h3, rest⟩
  · exact .inl hn
  · exact .inr ⟨g, off, cap, cur, rfl, h2, k.get h3 (hS g rfl), rest⟩
theorem OwnAt.later (h : OwnAt w base e size v n xs) (b : Below w.heap.size w w') : OwnAt w' base e size v n xs :=
  h.keep (Keep.of_below b) (fun b hb => by have := (h.lt b hb).2; omega)
theorem OwnAt.slOf (h : OwnAt w base e size v n xs) : SlOf (fun b => base ≤ b ∧ v.ownBlock = some b) w v size xs n := by
  refine ⟨h.1, ?_⟩
  rcases h.2 with ⟨rfl, rfl⟩ | ⟨g, off, cap, cur, rfl, h2, h3, h4, h5, h6, h7⟩
  · exact ⟨none, 0, rfl, Nat.le_refl _, by simp [maxLen], fun _ => rfl, fun hp => by have := h.1; omega⟩
  · refine ⟨_, cap, rfl, h4, h5, (fun h => by cases h), fun hp => ⟨g, off, rfl, ⟨h2, rfl⟩, lt_of_get h3, fun k u hu => ?_⟩⟩
    have hk : k < xs.length := (List.getElem?_eq_some_iff.1 hu).1
    rw [← h7, List.getElem?_take_of_lt (by rw [h.1] at hk; exact hk), List.getElem?_drop] at hu
    simp only [World.cell?, h3]
    simpa using hu
theorem OwnAt.val (h : OwnAt w base e size v n xs) : ∃ ao cap, v = .slice ao n cap := by
  rcases h.2 with ⟨rfl, rfl⟩ | ⟨g, off, cap, cur, rfl, _⟩
  · exact ⟨_, _, rfl⟩
  · exact ⟨_, _, rfl⟩
theorem OwnAt.cells {g off cap : Nat} (h : OwnAt w base e size (.slice (some ⟨g, off, none⟩) n cap) n xs) : ∀ j u, xs[j]? = some u → w.cell? ((⟨g, off, none⟩ : Addr).add j) = some u := by
  intro j u hu
  rcases h.2 with ⟨h, _⟩ | ⟨g', off', cap', cur, hv, h2, h3, h4, h5, h6, h7⟩
  · cases h
  · obtain ⟨e1, _, _⟩ := Value.slice.inj hv
    obtain ⟨rfl, rfl, _⟩ := Addr.mk.inj (Option.some.inj e1)
    have hk : j < xs.length := (List.getElem?_eq_some_iff.1 hu).1
    rw [← h7, List.getElem?_take_of_lt (by rw [h.1] at hk; exact hk), List.getElem?_drop] at hu
    rw [addr_add]
    simp only [World.cell?, h3]
    simpa using hu
end

theorem run_append_off {P : Program} (w : World) (base : Nat) (t ty e : TypeId) (i : TypeInfo) (z : Value) (size bytes : Nat) (ht : P.underlying t = some (.slice e)) (hi : P.info? e = some i) (hz : i.zero = some z)
    (hsize : i.size = size) (hby : i.bytes = bytes) (hzs : z.cells.size = size) (hsz : 0 < size)
    (v : Value) (n : Nat) (xs : List Value) (hown : OwnAt w base e size v n xs)
    (a : Addr) (m c : Nat) (news : List Value) (hl : news.length = m * size) (hnews : ∀ j u, news[j]? = some u → w.cell? (a.add j) = some u) (h1 : ∀ u ∈ news, u.oneCell' = true)
    (h63 : n + m ≤ maxLen) (hbytes : (n + m) * bytes ≤ 140737488355328) (hbase : base ≤ w.heap.size) :
    ∃ v' w', (Builtin.append_ #[t, t] ty #[v, .slice (some a) m c]).run P w = .ok v' w' ∧ OwnAt w' base e size v' (n + m) (xs ++ news) ∧ w.grownBy w' v.ownBlock ∧ (v'.ownBlock = v.ownBlock ∨ ∀ b, v'.ownBlock = some b → w.heap.size ≤ b) := by
  rcases hown.2 with hv | ⟨g, off, cap, cur, rfl, hbg, hg, hnc, hcm, hcs, htake⟩
  · obtain ⟨rfl, rfl⟩ := hv
    have ho : w.ownsRow base e size (.slice none 0 0) 0 xs := ⟨hown.1, .inl ⟨rfl, rfl⟩⟩
    obtain ⟨v', w', hr, h2, h3, _⟩ := run_append_own (P := P) w base t ty e i z size bytes ht hi hz hsize hby hzs hsz _ 0 xs ho a m c news hl hnews h1 h63 hbytes hbase
    refine ⟨v', w', hr, .of_owns h2, h3, .inr (fun b hb => ?_)⟩
    have hx : xs = [] := List.eq_nil_of_length_eq_zero (by simpa using hown.1)
    subst hx
    have ho2 : w.ownsRow w.heap.size e size (.slice none 0 0) 0 [] := World.ownsRow_nil _ _ _ _
    obtain ⟨v2, w2, hr2, h22, _⟩ := run_append_own (P := P) w w.heap.size t ty e i z size bytes ht hi hz hsize hby hzs hsz _ 0 [] ho2 a m c news hl hnews h1 h63 hbytes (Nat.le_refl _)
    rw [hr] at hr2
    injection hr2 with e1 e2
    subst e1
    exact (h22.lt b hb).1
  · subst hsize
    subst hby
    have hlen : (xs ++ news).length = (n + m) * i.size := by rw [List.length_append, hown.1, hl, Nat.add_mul]
    by_cases hroom : n + m ≤ cap
    · have hmul : (n + m) * i.size ≤ cap * i.size := Nat.mul_le_mul_right _ hroom
      have hfit : off + n * i.size + news.length ≤ cur.size := by rw [hl]; rw [Nat.add_mul] at hmul; omega
      have hr := run_append_room_off (P := P) w t ty e i ht hi g off n cap cur hg a m c news hl hnews h1 hroom hfit
      refine ⟨_, _, hr, ⟨hlen, .inr ⟨g, off, cap, _, rfl, hbg, setRow_heap w g cur _ e _ hg, hroom, hcm, ?_, ?_⟩⟩, ⟨rfl, rfl, rfl, by simp, fun k _ hk => setRow_other w g k _ (fun e => hk (by simp [Value.ownBlock, e]))⟩, .inl rfl⟩
      · simp only [List.size_toArray, List.length_append, List.length_take, List.length_drop, Array.length_toList]
        omega
      · have ho : off ≤ cur.toList.length := by rw [Array.length_toList]; omega
        have e1 : cur.toList.take (off + n * i.size) = cur.toList.take off ++ xs := by rw [← htake, ← List.take_add]
        rw [e1, List.toList_toArray]
        simp only [List.append_assoc]
        rw [List.drop_append_of_le_length (by rw [List.length_take]; omega), List.drop_eq_nil_of_le (by rw [List.length_take]; omega), List.nil_append, ← List.append_assoc, ← hlen]
        exact List.take_left
    · have hsmall : n + m ≤ 9223372036854775807 := by simp only [maxLen] at h63; omega
      have hr := run_append_grow (P := P) w t ty e i z ht hi hz ⟨g, off, none⟩ n cap xs hown.1 hown.cells a m c news hl hnews (by omega) (by omega) (growslice_fits (by omega) hbytes)
      have hge := grownCap_ge w (n + m) cap e
      have hcm : grownCap w (n + m) cap e ≤ maxLen := grownCap_le_maxLen w (n + m) cap e h63
      refine ⟨_, _, hr, .of_owns ⟨hlen, .inr ⟨w.heap.size, _, _, rfl, hbase, heap_alloc_new w.drew _, hge, hcm, ?_, ?_⟩⟩, ⟨rfl, rfl, rfl, by simp, fun k hk _ => Below.heap_alloc _ _ _ hk⟩, .inr (fun b hb => by obtain rfl := Option.some.inj hb; exact Nat.le_refl _)⟩
      · simp only [Array.size_append, List.size_toArray, size_zeroCells, hzs, hown.1, hl, ← Nat.add_mul]
        congr 1
        omega
      · simp only [Array.toList_append, List.append_assoc]
        rw [← List.append_assoc, ← hlen]
        exact List.take_left

theorem wpList_append_off {P : Program} {w : World} {ops : Array Oper} {rest : List Oper} {o : Oper} {a : Act} {Q : Exit → Act → World → Prop} (hgd : o.guard = none) (s x : Operand) (t : TypeId)
    (ho : o.op = .call { callee := .builtin .append, args := #[s, x], argTypes := #[t, t] })
    (base : Nat) (e : TypeId) (i : TypeInfo) (z : Value) (size bytes : Nat) (ht : P.underlying t = some (.slice e)) (hi : P.info? e = some i) (hz : i.zero = some z)
    (hsize : i.size = size) (hby : i.bytes = bytes) (hzs : z.cells.size = size) (hsz : 0 < size)
    (v : Value) (n : Nat) (xs : List Value) (hs : a.eval s = v) (hown : OwnAt w base e size v n xs)
    (ad : Addr) (m c : Nat) (news : List Value) (hx : a.eval x = .slice (some ad) m c) (hl : news.length = m * size) (hnews : ∀ j u, news[j]? = some u → w.cell? (ad.add j) = some u) (h1 : ∀ u ∈ news, u.oneCell' = true)
    (h63 : n + m ≤ maxLen) (hbytes : (n + m) * bytes ≤ 140737488355328) (hbase : base ≤ w.heap.size)
    (h : ∀ ao cap w', OwnAt w' base e size (.slice ao (n + m) cap) (n + m) (xs ++ news) → w.grownBy w' v.ownBlock → ((Value.slice ao (n + m) cap).ownBlock = v.ownBlock ∨ ∀ b, (Value.slice ao (n + m) cap).ownBlock = some b → w.heap.size ≤ b) → wpList P ops Q rest (a.put o.dst (.slice ao (n + m) cap)) w') :
    wpList P ops Q (o :: rest) a w := by
  refine wpList_plain hgd fun _ hK => ?_
  obtain ⟨v', w', hr, ho', hg, hst⟩ := run_append_off (P := P) w base t o.type e i z size bytes ht hi hz hsize hby hzs hsz v n xs hown ad m c news hl hnews h1 h63 hbytes hbase
  obtain ⟨ao, cap, rfl⟩ := ho'.val
  unfold Oper.wp execOp
  simp only [ho, resolve, invoke, builtin, Sem.run_bind, Sem.run_pure, Result.andThen_ok, List.map_toArray, List.map_cons, List.map_nil, hs, hx, hr]
  exact hK _ _ (h ao cap w' ho' hg hst)

theorem step_append_off {P : Program} {w : World} {ops : Array Oper} {o : Oper} {a : Act} {K : Act → World → Prop} {Q : Exit → Act → World → Prop} {E : Prop} (hgd : o.guard = none) (s x : Operand) (t : TypeId)
    (ho : o.op = .call { callee := .builtin .append, args := #[s, x], argTypes := #[t, t] })
    (base : Nat) (e : TypeId) (i : TypeInfo) (z : Value) (size bytes : Nat) (ht : P.underlying t = some (.slice e)) (hi : P.info? e = some i) (hz : i.zero = some z)
    (hsize : i.size = size) (hby : i.bytes = bytes) (hzs : z.cells.size = size) (hsz : 0 < size)
    (v : Value) (n : Nat) (xs : List Value) (hs : a.eval s = v) (hown : OwnAt w base e size v n xs)
    (ad : Addr) (m c : Nat) (news : List Value) (hx : a.eval x = .slice (some ad) m c) (hl : news.length = m * size) (hnews : ∀ j u, news[j]? = some u → w.cell? (ad.add j) = some u) (h1 : ∀ u ∈ news, u.oneCell' = true)
    (h63 : n + m ≤ maxLen) (hbytes : (n + m) * bytes ≤ 140737488355328) (hbase : base ≤ w.heap.size)
    (h : ∀ ao cap w', OwnAt w' base e size (.slice ao (n + m) cap) (n + m) (xs ++ news) → w.grownBy w' v.ownBlock → ((Value.slice ao (n + m) cap).ownBlock = v.ownBlock ∨ ∀ b, (Value.slice ao (n + m) cap).ownBlock = some b → w.heap.size ≤ b) → K (a.put o.dst (.slice ao (n + m) cap)) w') :
    if Region.wanted o (yielded ops a.tmps) = true then Oper.wp P o a w K Q else E := by
  have hw : Region.wanted o (yielded ops a.tmps) = true := by simp [Region.wanted, hgd]
  rw [if_pos hw]
  obtain ⟨v', w', hr, ho', hg, hst⟩ := run_append_off (P := P) w base t o.type e i z size bytes ht hi hz hsize hby hzs hsz v n xs hown ad m c news hl hnews h1 h63 hbytes hbase
  obtain ⟨ao, cap, rfl⟩ := ho'.val
  unfold Oper.wp execOp
  simp only [ho, resolve, invoke, builtin, Sem.run_bind, Sem.run_pure, Result.andThen_ok, List.map_toArray, List.map_cons, List.map_nil, hs, hx, hr]
  exact h ao cap w' ho' hg hst
/-- l[lo:] of a row of one's own. -/
theorem OwnAt.dropAt {w : World} {base : Nat} {e : TypeId} {size g off n cap : Nat} {xs : List Value} (h : OwnAt w base e size (.slice (some ⟨g, off, none⟩) n cap) n xs) (lo : Nat) (hlo : lo < n) :
    OwnAt w base e size (.slice (some ⟨g, off + lo * size, none⟩) (n - lo) (cap - lo)) (n - lo) (xs.drop (lo * size)) := by
  refine ⟨by rw [List.length_drop, h.1, Nat.sub_mul], .inr ?_⟩
  rcases h.2 with ⟨h, _⟩ | ⟨g', off', cap', cur, hv, h2, h3, h4, h5, h6, h7⟩
  · cases h
  · obtain ⟨e1, _, e3⟩ := Value.slice.inj hv
    obtain ⟨rfl, rfl, _⟩ := Addr.mk.inj (Option.some.inj e1)
    subst e3
    have hm : lo * size ≤ cap * size := Nat.mul_le_mul_right _ (by omega)
    refine ⟨g, _, _, cur, rfl, h2, h3, by omega, by omega, by rw [Nat.sub_mul]; omega, ?_⟩
    rw [← h7, List.drop_take, List.drop_drop, Nat.sub_mul]
end Go.Proofs.YtgdaljpimblkgaaGreatDoor

/- Package conf: a reader in memory. -/
namespace Go.Proofs.YtgdaljpimblkgaaGreatDoor
open Go.RowKit
set_option linter.unusedVariables false

def fT (j : Nat) : TypeId := [9, 65, 66, 3, 3].getD j 3
def fS (j : Nat) : Nat := [1, 4, 2, 1, 1].getD j 1
def fO (j : Nat) : Nat := [2, 6, 7, 8, 9].getD j 2
def fV (y : EntX) (j : Nat) : Value := [y.p, y.g, y.e, y.f, y.l].getD j y.p
def fN (E : EntV) (j : Nat) : Nat := [E.points.length, E.gaps.length, E.edges.length, E.first.length, E.last.length].getD j 0
def fC (E : EntV) (j : Nat) : List Value := [strCells1 E.points, E.gaps.flatMap gapCells, E.edges.flatMap edgeCells, intCells E.first, intCells E.last].getD j []
/-- An entity whose five rows are one's own; o tells to whom a block belongs. -/
def EntOwn (base : Nat) (o : Nat → Option Nat) (t : Nat) (y : EntX) (w : World) : Prop :=
  ∀ j, j < 5 → OwnAt w base (fT j) (fS j) (fV y j) (fN y.E j) (fC y.E j) ∧ ∀ b, (fV y j).ownBlock = some b → o b = some (t + j)
theorem EntOwn.keep {base : Nat} {o o' : Nat → Option Nat} {t : Nat} {y : EntX} {S : Nat → Prop} {w w' : World} (h : EntOwn base o t y w) (k : Keep S w w') (hS : ∀ b, b < w.heap.size → S b → ∀ j, j < 5 → o b ≠ some (t + j)) (ho : ∀ b, b < w.heap.size → o' b = o b) : EntOwn base o' t y w' := by
  intro j hj
  obtain ⟨h1, h2⟩ := h j hj
  refine ⟨h1.keep k (fun b hb hs => hS b (h1.lt b hb).2 hs j hj (h2 b hb)), fun b hb => ?_⟩
  rw [ho b (h1.lt b hb).2]
  exact h2 b hb
theorem EntOwn.slOf {base : Nat} {o : Nat → Option Nat} {t : Nat} {y : EntX} {w : World} (h : EntOwn base o t y w) : EntSl (fun b => base ≤ b ∧ b < w.heap.size) w y.E y.p y.g y.e y.f y.l := by
  have k : ∀ {v : Value} {e : TypeId} {sz : Nat} {cs : List Value} {n : Nat}, OwnAt w base e sz v n cs → SlOf (fun b => base ≤ b ∧ b < w.heap.size) w v sz cs n := by
    intro v e sz cs n h
    obtain ⟨hl, ao, cap, hv, h1, h2, h3, h4⟩ := h.slOf
    refine ⟨hl, ao, cap, hv, h1, h2, h3, fun hp => ?_⟩
    obtain ⟨b, off, ha, hR, hb, hc⟩ := h4 hp
    exact ⟨b, off, ha, ⟨hR.1, hb⟩, hb, hc⟩
  exact ⟨k (h 0 (by decide)).1, k (h 1 (by decide)).1, k (h 2 (by decide)).1, k (h 3 (by decide)).1, k (h 4 (by decide)).1⟩

def rdCs (C : ConfV) (v : Value) (st : Int) : Array Value := #[.int .i64 C.closed, .int .i64 C.opn, .int .i64 C.cycle, .int .i64 C.delay, v, .int .i64 st]
structure RdAt (base rb : Nat) (o : Nat → Option Nat) (C : ConfV) (st : Int) (v : Value) (Y : List EntX) (w : World) : Prop where
  blk : w.heap[rb]? = some (.cells (rdCs C v st) 78)
  lo : rb < base
  top : base ≤ w.heap.size
  fr : ∀ b, w.heap.size ≤ b → o b = none
  ob : ∀ b, b < base → o b = none
  row : OwnAt w base 52 10 v Y.length (Y.flatMap entXCells)
  rt : ∀ b, v.ownBlock = some b → o b = some 0
  own : ∀ i (hi : i < Y.length), EntOwn base o (1 + 5 * i) Y[i] w
  eq : C.ents = Y.map EntX.E
theorem RdAt.keep {base rb : Nat} {o : Nat → Option Nat} {C : ConfV} {st : Int} {v : Value} {Y : List EntX} {S : Nat → Prop} {w w' : World} (h : RdAt base rb o C st v Y w) (k : Keep S w w') (hS : ∀ b, b < w.heap.size → S b → b ≠ rb ∧ o b = none) : RdAt base rb o C st v Y w' := by
  have hl := lt_of_get h.blk
  refine ⟨k.get h.blk (fun hs => (hS rb hl hs).1 rfl), h.lo, Nat.le_trans h.top k.size, fun b hb => h.fr b (Nat.le_trans k.size hb), h.ob, ?_, h.rt, fun i hi => ?_, h.eq⟩
  · exact h.row.keep k (fun b hb hs => by have := (hS b (h.row.lt b hb).2 hs).2; rw [h.rt b hb] at this; cases this)
  · exact (h.own i hi).keep k (fun b hb hs j hj => by rw [(hS b hb hs).2]; simp) (fun _ _ => rfl)
theorem RdAt.later {base rb : Nat} {o : Nat → Option Nat} {C : ConfV} {st : Int} {v : Value} {Y : List EntX} {w w' : World} (h : RdAt base rb o C st v Y w) (b : Below w.heap.size w w') : RdAt base rb o C st v Y w' :=
  h.keep (below_keep b) (fun _ _ h => h.elim)
theorem rd_cells {w : World} {rb : Nat} {C : ConfV} {v : Value} {st : Int} (h : w.heap[rb]? = some (.cells (rdCs C v st) 78)) :
    w.cell? ⟨rb, 0, none⟩ = some (.int .i64 C.closed) ∧ w.cell? ⟨rb, 1, none⟩ = some (.int .i64 C.opn) ∧ w.cell? ⟨rb, 2, none⟩ = some (.int .i64 C.cycle) ∧ w.cell? ⟨rb, 3, none⟩ = some (.int .i64 C.delay) ∧ w.cell? ⟨rb, 4, none⟩ = some v ∧ w.cell? ⟨rb, 5, none⟩ = some (.int .i64 st) ∧ ∀ o, w.frozen? ⟨rb, o, none⟩ = false := by
  unfold rdCs at h
  simp [World.cell?, World.frozen?, h]
/-- A store into the reader's own cells. -/
theorem RdAt.set {base rb : Nat} {o : Nat → Option Nat} {C C' : ConfV} {st st' : Int} {v : Value} {Y : List EntX} {w : World} (h : RdAt base rb o C st v Y w) (k : Nat) (u : Value) (he : (rdCs C v st).setIfInBounds k u = rdCs C' v st') (hC : C'.ents = C.ents) : RdAt base rb o C' st' v Y (w.setCell ⟨rb, k, none⟩ u) := by
  have kk := keep_set w rb k u
  have hor : o rb = none := h.ob rb h.lo
  refine ⟨?_, h.lo, Nat.le_trans h.top kk.size, fun b hb => h.fr b (Nat.le_trans kk.size hb), h.ob, ?_, h.rt, fun i hi => ?_, by rw [hC]; exact h.eq⟩
  · rw [get_setCell _ h.blk, he]
  · exact h.row.keep kk (fun b hb hs => by have := h.rt b hb; rw [show b = rb from hs, hor] at this; cases this)
  · exact (h.own i hi).keep kk (fun b hb hs j hj => by rw [show b = rb from hs, hor]; simp) (fun _ _ => rfl)

/-- A store into a row of one's own. -/
theorem OwnAt.stored {w : World} {base : Nat} {e : TypeId} {size g off n cap : Nat} {xs : List Value} (h : OwnAt w base e size (.slice (some ⟨g, off, none⟩) n cap) n xs) (j : Nat) (hj : j < n * size) (u : Value) :
    OwnAt (w.setCell ⟨g, off + j, none⟩ u) base e size (.slice (some ⟨g, off, none⟩) n cap) n (xs.set j u) ∧ w.frozen? ⟨g, off + j, none⟩ = false := by
  rcases h.2 with ⟨h', _⟩ | ⟨g', off', cap', cur, hv, h2, h3, h4, h5, h6, h7⟩
  · cases h'
  · obtain ⟨e1, _, e3⟩ := Value.slice.inj hv
    obtain ⟨rfl, rfl, _⟩ := Addr.mk.inj (Option.some.inj e1)
    subst e3
    refine ⟨⟨by rw [List.length_set]; exact h.1, .inr ⟨g, off, cap, cur.setIfInBounds (off + j) u, rfl, h2, get_setCell u h3, h4, h5, by simpa using h6, ?_⟩⟩, by simp [World.frozen?, h3]⟩
    rw [Array.toList_setIfInBounds, ← h7]
    apply List.ext_getElem?
    intro i
    simp only [List.getElem?_take, List.getElem?_drop, List.getElem?_set, List.length_take, List.length_drop, Array.length_toList]
    have hm : n * size ≤ cap * size := Nat.mul_le_mul_right _ h4
    by_cases hi : i < n * size
    · simp only [hi, if_true]
      by_cases hij : j = i
      · subst hij
        rw [if_pos rfl, if_pos rfl, if_pos (by omega), if_pos (by omega)]
      · rw [if_neg (by omega), if_neg hij]
    · simp only [hi, if_false]
      rw [if_neg (by omega)]
/-- The last entity's place. -/
theorem RdAt.form {base rb : Nat} {o : Nat → Option Nat} {C : ConfV} {st : Int} {v : Value} {Z : List EntX} {y : EntX} {w : World} (h : RdAt base rb o C st v (Z ++ [y]) w) :
    ∃ g off cap, v = .slice (some ⟨g, off, none⟩) (Z.length + 1) cap ∧ (Z.length + 1 ≤ cap ∧ cap ≤ maxLen) ∧ o g = some 0 ∧ base ≤ g ∧ g < w.heap.size ∧ g ≠ rb ∧ ∀ k u, (entXCells y)[k]? = some u → w.cell? ⟨g, off + (Z.length * 10 + k), none⟩ = some u := by
  have hr := h.row
  rw [List.length_append, List.length_singleton] at hr
  rcases hr.2 with ⟨_, h0⟩ | ⟨g, off, cap, cur, rfl, h2, h3, h4, h5, h6, h7⟩
  · omega
  · refine ⟨g, off, cap, rfl, ⟨h4, h5⟩, h.rt g rfl, h2, lt_of_get h3, by have := h.lo; omega, fun k u hu => ?_⟩
    have := hr.cells (g := g) (off := off) (cap := cap) (Z.length * 10 + k) u (by
      rw [List.flatMap_append, List.getElem?_append_right (by rw [flat_len entXCells 10 (fun _ => rfl)]; omega), flat_len entXCells 10 (fun _ => rfl)]
      simpa using hu)
    rw [addr_add] at this
    exact this
theorem flat_set (Z : List EntX) (y y' : EntX) (k : Nat) (hk : k < 10) (u : Value) (he : entXCells y' = (entXCells y).set k u) : ((Z ++ [y]).flatMap entXCells).set (Z.length * 10 + k) u = (Z ++ [y']).flatMap entXCells := by
  have hl : (Z.flatMap entXCells).length = Z.length * 10 := flat_len entXCells 10 (fun _ => rfl) Z
  rw [List.flatMap_append, List.flatMap_append, List.flatMap_singleton, List.flatMap_singleton, he, List.set_append_right _ _ (by omega), hl, Nat.add_sub_cancel_left]

theorem own_of {o : Nat → Option Nat} {T : Nat} {v v2 : Value} {w1 : World} (hn : v2.ownBlock = v.ownBlock ∨ ∀ b, v2.ownBlock = some b → w1.heap.size ≤ b) (hv : ∀ b, v.ownBlock = some b → o b = some T) {b : Nat} (hb : b < w1.heap.size) (h2 : v2.ownBlock = some b) : o b = some T := by
  rcases hn with hn | hn
  · exact hv b (by rw [← hn]; exact h2)
  · have := hn b h2; omega
/-- An append onto a row of the last entity's, stored back. -/
theorem RdAt.appF {base rb : Nat} {o : Nat → Option Nat} {C C' : ConfV} {st : Int} {Z : List EntX} {y y' : EntX} {w w1 w2 : World} {g off cap : Nat} (h : RdAt base rb o C st (.slice (some ⟨g, off, none⟩) (Z.length + 1) cap) (Z ++ [y]) w) (j : Nat) (hj : j < 5) (b1 : Below w.heap.size w w1) {v2 : Value} {n : Nat} {cs : List Value}
    (ho : OwnAt w2 base (fT j) (fS j) v2 n cs) (hg : w1.grownBy w2 (fV y j).ownBlock) (hn : v2.ownBlock = (fV y j).ownBlock ∨ ∀ b, v2.ownBlock = some b → w1.heap.size ≤ b)
    (hX : entXCells y' = (entXCells y).set (fO j) v2) (hO : (entXCells y)[fO j]? = some (fV y j)) (hs : ∀ i, i < 5 → i ≠ j → fV y' i = fV y i ∧ fN y'.E i = fN y.E i ∧ fC y'.E i = fC y.E i) (hj2 : fV y' j = v2 ∧ fN y'.E j = n ∧ fC y'.E j = cs)
    (hC : rdCs C' (.slice (some ⟨g, off, none⟩) (Z.length + 1) cap) st = rdCs C (.slice (some ⟨g, off, none⟩) (Z.length + 1) cap) st) (hE : C'.ents = (Z ++ [y']).map EntX.E) :
    (∃ o', RdAt base rb o' C' st (.slice (some ⟨g, off, none⟩) (Z.length + 1) cap) (Z ++ [y']) (w2.setCell ⟨g, off + (Z.length * 10 + fO j), none⟩ v2)) ∧ Keep (fun b => ∃ t, o b = some t) w (w2.setCell ⟨g, off + (Z.length * 10 + fO j), none⟩ v2) ∧
      w2.cell? ⟨g, off + (Z.length * 10 + fO j), none⟩ = some (fV y j) ∧ w2.frozen? ⟨g, off + (Z.length * 10 + fO j), none⟩ = false := by
  have hfo : fO j < 10 := by
    match j, hj with
    | 0, _ => decide
    | 1, _ => decide
    | 2, _ => decide
    | 3, _ => decide
    | 4, _ => decide
  have hzl : (Z ++ [y]).length = Z.length + 1 := by rw [List.length_append, List.length_singleton]
  have hym := h.own Z.length (by omega)
  rw [List.getElem_concat_length rfl] at hym
  obtain ⟨hyj, hyt⟩ := hym j hj
  have hgw : g < w.heap.size := (h.row.lt g rfl).2
  have hgo : o g = some 0 := h.rt g rfl
  have hsz1 := b1.size
  have k1 : Keep (fun b => o b = some (1 + 5 * Z.length + j)) w w2 := (Keep.refl _ w).step (Keep.of_below b1) (fun b hb hl => by omega) |>.step (Keep.of_grown hg) (fun b hb hl => hyt b (Eq.symm hb))
  have k2 := keep_set w2 g (off + (Z.length * 10 + fO j)) v2
  have k3 : Keep (fun b => o b = some (1 + 5 * Z.length + j) ∨ b = g) w (w2.setCell ⟨g, off + (Z.length * 10 + fO j), none⟩ v2) := (k1.mono (fun b _ hb => .inl hb)).step k2 (fun b hb _ => .inr hb)
  have hsz := k3.size
  have hrow2 := h.row.keep k1 (fun b hb hs => by rw [h.rt b hb] at hs; injection hs with hs; omega)
  rw [hzl] at hrow2
  have hpos : Z.length * 10 + fO j < (Z.length + 1) * 10 := by omega
  have hst := hrow2.stored (Z.length * 10 + fO j) hpos v2
  have hcell := hrow2.cells (Z.length * 10 + fO j) (fV y j) (by
    rw [List.flatMap_append, List.getElem?_append_right (by rw [flat_len entXCells 10 (fun _ => rfl)]; omega), flat_len entXCells 10 (fun _ => rfl)]
    simpa using hO)
  rw [addr_add] at hcell
  have hng : v2.ownBlock ≠ some g := fun e => by
    have := own_of hn hyt (by omega) e
    rw [hgo] at this
    injection this with this
    omega
  refine ⟨⟨fun b => if v2.ownBlock = some b then some (1 + 5 * Z.length + j) else o b, ?_⟩, k3.mono (fun b _ hb => by rcases hb with hb | rfl; exact ⟨_, hb⟩; exact ⟨_, hgo⟩), hcell, hst.2⟩
  have hob : ∀ b, b < w.heap.size → (if v2.ownBlock = some b then some (1 + 5 * Z.length + j) else o b) = o b := by
    intro b hb
    split
    · next e => exact (own_of hn hyt (by omega) e).symm
    · rfl
  have hrb : o rb = none := h.ob rb h.lo
  have hrl := lt_of_get h.blk
  refine ⟨?_, h.lo, Nat.le_trans h.top hsz, fun b hb => ?_, fun b hb => ?_, ?_, fun b hb => ?_, fun i hi => ?_, hE⟩
  · rw [hC]
    exact k3.get h.blk (fun hs => by rcases hs with hs | hs; rw [hrb] at hs; cases hs; rw [hs, hgo] at hrb; cases hrb)
  · rw [if_neg (fun e => by have := (ho.lt b e).2; have := k2.size; omega)]
    exact h.fr b (by omega)
  · rw [if_neg (fun e => by have := (ho.lt b e).1; omega)]
    exact h.ob b hb
  · have := hst.1
    rw [flat_set Z y y' (fO j) hfo v2 hX] at this
    rw [List.length_append, List.length_singleton]
    exact this
  · obtain rfl : g = b := Option.some.inj hb
    rw [if_neg hng]
    exact hgo
  · rw [List.length_append, List.length_singleton] at hi
    by_cases him : i < Z.length
    · have hy := h.own i (by omega)
      rw [List.getElem_append_left him] at hy ⊢
      refine hy.keep k3 (fun b hb hs i' hi' hh => ?_) hob
      rcases hs with hs | rfl
      · rw [hs] at hh; injection hh with hh; omega
      · rw [hgo] at hh; injection hh with hh; omega
    · obtain rfl : i = Z.length := by omega
      rw [List.getElem_concat_length rfl]
      intro i' hi'
      by_cases hij : i' = j
      · subst hij
        obtain ⟨q1, q2, q3⟩ := hj2
        rw [q1, q2, q3]
        refine ⟨ho.keep k2 (fun b hb hs => hng (by rw [← show b = g from hs]; exact hb)), fun b hb => if_pos hb⟩
      · obtain ⟨q1, q2, q3⟩ := hs i' hi' hij
        rw [q1, q2, q3]
        obtain ⟨p1, p2⟩ := hym i' hi'
        refine ⟨p1.keep k3 (fun b hb hs => ?_), fun b hb => ?_⟩
        · rcases hs with hs | rfl
          · rw [p2 b hb] at hs; injection hs with hs; omega
          · rw [p2 b hb] at hgo; injection hgo with hgo; omega
        · show (if v2.ownBlock = some b then some (1 + 5 * Z.length + j) else o b) = _
          rw [hob b (p1.lt b hb).2]
          exact p2 b hb
/-- Behind an append onto a row of the reader's own: whatever is not the reader's stands. -/
theorem RdAt.far {base rb : Nat} {o : Nat → Option Nat} {C : ConfV} {st : Int} {v : Value} {Y : List EntX} {w w1 w2 : World} (h : RdAt base rb o C st v Y w) (b1 : Below w.heap.size w w1) {u : Value} {T : Nat} (hu : ∀ b, u.ownBlock = some b → o b = some T) (hg : w1.grownBy w2 u.ownBlock) :
    ∀ b k, b < w.heap.size → o b = none → w2.cell? ⟨b, k, none⟩ = w.cell? ⟨b, k, none⟩ ∧ w2.frozen? ⟨b, k, none⟩ = w.frozen? ⟨b, k, none⟩ := by
  intro b k hb hn
  have k1 : Keep (fun b => o b = some T) w w2 := (Keep.refl _ w).step (Keep.of_below b1) (fun b hb hl => by have := b1.size; omega) |>.step (Keep.of_grown hg) (fun b hb hl => hu b (Eq.symm hb))
  have e := k1.block b hb (fun hs => by rw [hn] at hs; cases hs)
  exact ⟨World.cell?_of_block (a := ⟨b, k, none⟩) e, World.frozen?_of_block (a := ⟨b, k, none⟩) e⟩
theorem noEnt_cells (name : ByteArray) (tol : Int) : entXCells ⟨newE name tol, .slice none 0 0, .slice none 0 0, .slice none 0 0, .slice none 0 0, .slice none 0 0⟩ = [.string name, .int .i64 tol, .slice none 0 0, .int .i64 (-1), .int .i64 0, .int .i64 0, .slice none 0 0, .slice none 0 0, .slice none 0 0, .slice none 0 0] := rfl
/-- One entity more, stored. -/
theorem RdAt.appE {base rb : Nat} {o : Nat → Option Nat} {C : ConfV} {st : Int} {v v2 : Value} {Y : List EntX} {w w1 w2 : World} (h : RdAt base rb o C st v Y w) (b1 : Below w.heap.size w w1) (name : ByteArray) (tol : Int)
    (ho : OwnAt w2 base 52 10 v2 (Y.length + 1) (Y.flatMap entXCells ++ entXCells ⟨newE name tol, .slice none 0 0, .slice none 0 0, .slice none 0 0, .slice none 0 0, .slice none 0 0⟩)) (hg : w1.grownBy w2 v.ownBlock) (hn : v2.ownBlock = v.ownBlock ∨ ∀ b, v2.ownBlock = some b → w1.heap.size ≤ b) :
    (∃ o', RdAt base rb o' { C with ents := C.ents ++ [newE name tol] } st v2 (Y ++ [⟨newE name tol, .slice none 0 0, .slice none 0 0, .slice none 0 0, .slice none 0 0, .slice none 0 0⟩]) (w2.setCell ⟨rb, 4, none⟩ v2)) ∧ Keep (fun b => b = rb ∨ ∃ t, o b = some t) w (w2.setCell ⟨rb, 4, none⟩ v2) ∧ w2.cell? ⟨rb, 4, none⟩ = some v ∧ w2.frozen? ⟨rb, 4, none⟩ = false := by
  have hsz1 := b1.size
  have hrb : o rb = none := h.ob rb h.lo
  have hrl := lt_of_get h.blk
  have k1 : Keep (fun b => o b = some 0) w w2 := (Keep.refl _ w).step (Keep.of_below b1) (fun b hb hl => by omega) |>.step (Keep.of_grown hg) (fun b hb hl => h.rt b (Eq.symm hb))
  have k2 := keep_set w2 rb 4 v2
  have k3 : Keep (fun b => o b = some 0 ∨ b = rb) w (w2.setCell ⟨rb, 4, none⟩ v2) := (k1.mono (fun b _ hb => .inl hb)).step k2 (fun b hb _ => .inr hb)
  have hsz := k3.size
  have hblk2 := k1.get h.blk (fun hs => by rw [hrb] at hs; cases hs)
  have hob : ∀ b, b < w.heap.size → (if v2.ownBlock = some b then some 0 else o b) = o b := by
    intro b hb
    split
    · next e => exact (own_of hn h.rt (by omega) e).symm
    · rfl
  refine ⟨⟨fun b => if v2.ownBlock = some b then some 0 else o b, ?_⟩, k3.mono (fun b _ hb => by rcases hb with hb | rfl; exact .inr ⟨_, hb⟩; exact .inl rfl), by simp [World.cell?, hblk2, rdCs], by simp [World.frozen?, hblk2]⟩
  refine ⟨?_, h.lo, Nat.le_trans h.top hsz, fun b hb => ?_, fun b hb => ?_, ?_, fun b hb => by rw [if_pos hb], fun i hi => ?_, ?_⟩
  · rw [get_setCell _ hblk2]
    rfl
  · rw [if_neg (fun e => by have := (ho.lt b e).2; have := k2.size; omega)]
    exact h.fr b (by omega)
  · rw [if_neg (fun e => by have := (ho.lt b e).1; omega)]
    exact h.ob b hb
  · rw [List.length_append, List.length_singleton, List.flatMap_append, List.flatMap_singleton]
    exact ho.keep k2 (fun b hb hs => by have := (ho.lt b hb).1; have := h.lo; have : b = rb := hs; omega)
  · rw [List.length_append, List.length_singleton] at hi
    by_cases him : i < Y.length
    · rw [List.getElem_append_left him]
      refine (h.own i him).keep k3 (fun b hb hs i' hi' hh => ?_) hob
      rcases hs with hs | rfl
      · rw [hs] at hh; injection hh with hh; omega
      · rw [hrb] at hh; cases hh
    · obtain rfl : i = Y.length := by omega
      rw [List.getElem_concat_length rfl]
      intro j hj
      match j, hj with
      | 0, _ => exact ⟨⟨rfl, .inl ⟨rfl, rfl⟩⟩, fun b hb => by cases hb⟩
      | 1, _ => exact ⟨⟨rfl, .inl ⟨rfl, rfl⟩⟩, fun b hb => by cases hb⟩
      | 2, _ => exact ⟨⟨rfl, .inl ⟨rfl, rfl⟩⟩, fun b hb => by cases hb⟩
      | 3, _ => exact ⟨⟨rfl, .inl ⟨rfl, rfl⟩⟩, fun b hb => by cases hb⟩
      | 4, _ => exact ⟨⟨rfl, .inl ⟨rfl, rfl⟩⟩, fun b hb => by cases hb⟩
  · show C.ents ++ [newE name tol] = (Y ++ [_]).map EntX.E
    rw [List.map_append, h.eq]
    rfl
end Go.Proofs.YtgdaljpimblkgaaGreatDoor
