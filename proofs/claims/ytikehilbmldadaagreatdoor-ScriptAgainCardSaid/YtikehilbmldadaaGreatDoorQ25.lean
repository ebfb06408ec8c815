import Derived.Test.YtikehilbmldadaaGreatDoorQ24
import Derived.Test.YtikehilbmldadaaGreatDoorShelf
import Derived.Deep.DeepMust
import Derived.Lib.ItoaLen
import Derived.Test.YtikehilbmldadaaGreatDoorQ01
import Derived.Laws.AppendOwn
set_option maxHeartbeats 4000000
set_option maxRecDepth 100000
namespace Go.Proofs.YtikehilbmldadaaGreatDoor
open Go.RowKit
set_option linter.unusedVariables false
def recNs (r : RecV) : List Nat := [r.seq, r.ent, r.kind, r.tick]
def recTs (r : RecV) : List ByteArray := (recNs r).map (fun n : Nat => strV (Lib.itoa (n : Int)))
theorem recTs_join (r : RecV) : (Lib.join ((recTs r).map (·.data.toList)) [32]) = scRec r := by
  simp [recTs, recNs, scRec, strV_data]
def RecTd (r : RecV) : Prop := ∀ n ∈ recNs r, n ≤ 9223372036854775807
theorem RecOk.td {r : RecV} (h : RecOk r) : RecTd r := by
  intro n hn
  have := h.s2; have := h.e; have := h.k; have := h.t
  simp [recNs] at hn
  omega
theorem itoa_nat_len {n : Nat} (h : n ≤ 9223372036854775807) : (Lib.itoa (n : Int)).length ≤ 21 := Lib.itoa_length_le n (by omega) (by omega)
theorem scRec_len {r : RecV} (h : RecTd r) : (scRec r).length ≤ 87 := by
  unfold scRec
  rw [Lib.join_length]
  have a := itoa_nat_len (h r.seq (by simp [recNs]))
  have b := itoa_nat_len (h r.ent (by simp [recNs]))
  have c := itoa_nat_len (h r.kind (by simp [recNs]))
  have d := itoa_nat_len (h r.tick (by simp [recNs]))
  simp [Lib.lens]
  omega
theorem recTs_at (r : RecV) (i : Nat) (h : i < 4) : (recTs r).take (i + 1) = (recTs r).take i ++ [strV (Lib.itoa (((recNs r).getD i 0 : Nat) : Int))] := by
  have hl : i < (recNs r).length := h
  rw [List.take_succ_eq_append_getElem (by unfold recTs; rw [List.length_map]; exact hl)]
  unfold recTs
  rw [List.getElem_map, List.getD_eq_getElem?_getD, List.getElem?_eq_getElem hl]
  rfl
theorem recTd_at {r : RecV} (h : RecTd r) (i : Nat) (hi : i < 4) : (recNs r).getD i 0 ≤ 9223372036854775807 := by
  match i, hi with
  | 0, _ => exact h _ (by simp [recNs])
  | 1, _ => exact h _ (by simp [recNs])
  | 2, _ => exact h _ (by simp [recNs])
  | 3, _ => exact h _ (by simp [recNs])
structure ToldSt (w : World) (p : Nat) (r : RecV) (i : Nat) (v : Value) (wr : World) : Prop where
  own : wr.ownsRow (p + 1) 9 1 v i (strCells1 ((recTs r).take i))
  ns : ∀ k, k < 4 → wr.cell? ⟨p, k, none⟩ = some (.int .i64 (((recNs r).getD k 0 : Nat) : Int))
  bel : Below w.heap.size w wr
  lo : w.heap.size ≤ p
  hi : p < wr.heap.size
theorem strCells_one (l : List ByteArray) (x : ByteArray) : strCells1 (l ++ [x]) = strCells1 l ++ strCells1 [x] := by simp [strCells1]
theorem ToldSt.below {w wr w' : World} {p i : Nat} {r : RecV} {v : Value} (h : ToldSt w p r i v wr) (b : Below wr.heap.size wr w') : ToldSt w p r i v w' :=
  ⟨ownsRow_keep' h.own (below_keep b) (fun _ _ _ h => h), fun k hk => by rw [b.cell (p := ⟨p, k, none⟩) h.hi]; exact h.ns k hk, h.bel.trans (b.mono h.bel.size), h.lo, Nat.lt_of_lt_of_le h.hi b.size⟩
theorem ToldSt.next {w wz W w' : World} {p i : Nat} {r : RecV} {v v' : Value} (h : ToldSt w p r i v wz) (hi : i < 4) (hb : Below wz.heap.size wz W) (ho : w'.ownsRow (p + 1) 9 1 v' (i + 1) (strCells1 ((recTs r).take i) ++ strCells1 [strV (Lib.itoa (((recNs r).getD i 0 : Nat) : Int))])) (hg : W.grownBy w' v.ownBlock) : ToldSt w p r (i + 1) v' w' := by
  have h2 := h.below hb
  have kg : Keep (fun b => some b = v.ownBlock) W w' := Keep.of_grown hg
  have hl := fun b (hb : some b = v.ownBlock) => (h2.own.lt b hb.symm).1
  refine ⟨by rw [recTs_at r i hi, strCells_one]; exact ho, fun k hk => ?_, h2.bel.trans (kg.below h2.bel.size (fun b hb => by have := hl b hb; have := h2.lo; omega)), h2.lo, Nat.lt_of_lt_of_le h2.hi kg.size⟩
  rw [kg.cell (p := ⟨p, k, none⟩) h2.hi (fun hh => by have := hl p hh; omega)]
  exact h2.ns k hk
theorem scTold_any (B : Nat) (r : RecV) (w : World) (hT : TabB B w) (hB : B ≤ w.heap.size) (hr : RecTd r) :
    Calls Tryz.prog 137 #[recAgg r] w fun e w' => e = .returned (.string (strV (scRec r))) ∧ Below w.heap.size w w' := by
  obtain ⟨i0, hi0, hz0, hz1, hz2⟩ := info_parts Tryz.infoStr
  have hba : Below w.heap.size w (w.alloc (recC r)) := (Below.refl _ _).alloc (Nat.le_refl _) _
  have hna := get_alloc_new w (recC r)
  have HT := Lib.hid (fun W (hW : Below w.heap.size w W) i (hi : i < 4) => itoa_any B (((recNs r).getD i 0 : Nat) : Int) W (hT.low hW hB) (by omega) (by have := recTd_at hr i hi; omega))
  have HJN := Lib.hid (recTs_join r)
  have HJL := Lib.hid (scRec_len hr)
  clear hT hB hr
  unfold recC at hba hna
  unfold recAgg
  go_enter Tryz.func137, Tryz.ntmps137
  go_upto_region 2 with fail
  generalize w.alloc _ = w1 at hba hna ⊢
  obtain ⟨c0, c1, c2, c3⟩ := four_cells hna
  have hsz : w.heap.size < w1.heap.size := lt_of_get hna
  have HST0 : Hid (ToldSt w w1.heap.size r 0 (.slice none 0 0) (w1.alloc (.cells #[.int .i64 r.seq, .int .i64 r.ent, .int .i64 r.kind, .int .i64 r.tick] 3))) := (show ToldSt w w1.heap.size r 0 (.slice none 0 0) (w1.alloc (.cells #[.int .i64 r.seq, .int .i64 r.ent, .int .i64 r.kind, .int .i64 r.tick] 3)) from by
    have hg := get_alloc_new w1 (.cells #[.int .i64 r.seq, .int .i64 r.ent, .int .i64 r.kind, .int .i64 r.tick] 3)
    obtain ⟨d0, d1, d2, d3⟩ := four_cells hg
    refine ⟨World.ownsRow_nil _ _ _ _, fun k hk => ?_, hba.alloc (Nat.le_of_lt hsz) _, Nat.le_of_lt hsz, lt_of_get hg⟩
    match k, hk with
    | 0, _ => exact d0
    | 1, _ => exact d1
    | 2, _ => exact d2
    | 3, _ => exact d3)
  have HZ := Lib.hid hsz
  clear hba hna hsz
  go_wp2_with fail
  generalize hp : w1.heap.size = p at HST0 HZ ⊢
  clear hp
  go_loopw [3, 16] (fun s3 s16 wr => ∃ (i : Nat) (a1 : Option Addr) (j1 : Nat), i ≤ 4 ∧ s3 = .slice a1 i j1 ∧ s16 = .int .i64 i ∧ Hid (ToldSt w p r i (.slice a1 i j1) wr)) (fun _ s16 _ => 4 - (intOf s16).toNat)
  case atStart => exact ⟨0, none, 0, by omega, rfl, rfl, HST0⟩
  case round =>
    obtain ⟨i, a1, j1, hi, rfl, rfl, hst⟩ := hrel
    clear HST0 c0 c1 c2 c3
    by_cases hlt : i < 4
    · have hltI : (i : Int) < 4 := by omega
      have hc := hst.out.ns i hlt
      have HI := Lib.hid (HT.out wr hst.out.bel i hlt)
      have HNx := Lib.hid (fun wz W w' v' (bz : Below wr.heap.size wr wz) hb ho hg => (hst.out.below bz).next (W := W) (w' := w') (v' := v') hlt hb ho hg)
      have HLay := Lib.hid (fun wz (bz : Below wr.heap.size wr wz) (x : Obj) => And.intro ((hst.out.below bz).own.alloc x) (show p + 1 ≤ (wz.alloc x).heap.size by rw [World.size_alloc]; have := (hst.out.below bz).hi; omega))
      obtain ⟨N, hN⟩ : ∃ N, N = (recNs r).getD i 0 := ⟨_, rfl⟩
      rw [← hN] at hc HI HNx
      obtain ⟨S, hS⟩ : ∃ S : ByteArray, S = strV (Lib.itoa (N : Int)) := ⟨_, rfl⟩
      have HI' : Hid (Calls Tryz.prog 100 #[.int .i64 N] wr fun e w' => e = .returned (.string S) ∧ Below wr.heap.size wr w') := (show Calls Tryz.prog 100 #[.int .i64 N] wr fun e w' => e = .returned (.string S) ∧ Below wr.heap.size wr w' from by rw [hS]; exact HI.out)
      rw [← hS] at HNx
      obtain ⟨cs, hcs⟩ : ∃ cs, cs = strCells1 ((recTs r).take i) := ⟨_, rfl⟩
      rw [← hcs] at HNx
      have HLay2 : Hid (∀ wz (bz : Below wr.heap.size wr wz) (x : Obj), (wz.alloc x).ownsRow (p + 1) 9 1 (.slice a1 i j1) i cs ∧ p + 1 ≤ (wz.alloc x).heap.size) := (show ∀ wz (bz : Below wr.heap.size wr wz) (x : Obj), (wz.alloc x).ownsRow (p + 1) 9 1 (.slice a1 i j1) i cs ∧ p + 1 ≤ (wz.alloc x).heap.size from by rw [hcs]; exact HLay.out)
      have h63 : Hid (i + 1 ≤ maxLen) := (show i + 1 ≤ maxLen from by unfold maxLen; omega)
      have hby : Hid ((i + 1) * 16 ≤ 140737488355328) := (show (i + 1) * 16 ≤ 140737488355328 from by omega)
      clear hst HI HLay hN hS hcs HT HJN HJL
      go_wp2_with fail
      refine HI'.out.mono ?_
      rintro e wz ⟨rfl, bz⟩
      have HBZ := Lib.hid bz
      clear bz hc
      go_wp2_with (at_builtin; go_must (refine wpList_append_ownS rfl (.tmp 20) (.tmp 23) 22 rfl (p + 1) 9 i0 _ 1 16 Tryz.underlying22 hi0 hz0 hz1 hz2 rfl (by decide) _ i _ rfl (HLay2.out wz HBZ.out _).1 ⟨wz.heap.size, 0, none⟩ 1 1 (strCells1 [S]) rfl rfl (new_cells _ (strCells1 [S]) _) (oneCell_strs _) h63.out hby.out (HLay2.out wz HBZ.out _).2 ?_; intro a2 k2 w4 ho hg; have nx := Lib.hid (HNx.out wz _ w4 _ HBZ.out ((Below.refl _ _).alloc (Nat.le_refl _) _) ho hg); clear ho hg))
      go_roundw
      case rel => exact ⟨i + 1, a2, k2, by omega, rfl, by go_num, nx⟩
      case measure => simp [intOf]; omega
    · obtain rfl : i = 4 := by omega
      have hsl := slOf_owns hst.out.own
      have hsl2 : SlOf (fun b => p + 1 ≤ b) wr (.slice a1 4 j1) 1 (strCells1 (recTs r)) (recTs r).length := hsl
      obtain ⟨hl4, ao, cap, hv, hc1, hc2, hc3, hc4⟩ := hsl2
      injection hv with e1 e2 e3
      subst e1; subst e3
      obtain ⟨b, off, rfl, hR, hbl, hcell⟩ := str_cells (ao := a1) (n := 4) (cap := j1) (l := recTs r) hsl (by show 0 < 4; decide)
      have HJ := Tryz.strings_Join b off j1 (recTs r) ⟨#[32]⟩ wr (fun j x hx => by
        obtain ⟨hj, rfl⟩ := List.getElem?_eq_some_iff.1 hx
        exact hcell j hj) hbl (by show 4 ≤ _; decide) hc1 (by
        show (Lib.join ((recTs r).map (·.data.toList)) [32]).length ≤ _
        rw [HJN.out]; have := HJL.out; omega)
      have HJ2 : Hid (Calls Tryz.prog 139 #[.slice (some ⟨b, off, none⟩) 4 j1, .string ⟨#[32]⟩] wr fun e w' => e = .returned (.string (strV (scRec r))) ∧ Below wr.heap.size wr w') := (show Calls Tryz.prog 139 #[.slice (some ⟨b, off, none⟩) 4 j1, .string ⟨#[32]⟩] wr fun e w' => e = .returned (.string (strV (scRec r))) ∧ Below wr.heap.size wr w' from by
        rw [← HJN.out]; exact HJ)
      have HB := Lib.hid hst.out.bel
      clear HJ hst hsl hl4 hc1 hc2 hc3 hc4 hcell hbl hR HJN HJL HT
      go_wp2_with fail
      refine HJ2.out.mono ?_
      rintro e wz ⟨rfl, bz⟩
      have HB2 := Lib.hid (HB.out.trans (bz.mono HB.out.size))
      clear bz
      go_wp2_with fail
      go_ret
      exact ⟨rfl, HB2.out⟩
end Go.Proofs.YtikehilbmldadaaGreatDoor
namespace Go.Proofs.YtikehilbmldadaaGreatDoor
open Go.RowKit
set_option linter.unusedVariables false
theorem run_append_room_off {P : Program} (w : World) (t ty e : TypeId) (i : TypeInfo) (ht : P.underlying t = some (.slice e)) (hi : P.info? e = some i)
    (g off sLen sCap : Nat) (cur : Array Value) (hg : w.heap[g]? = some (.cells cur e (0, 0)))
    (a : Addr) (m c : Nat) (news : List Value) (hl : news.length = m * i.size) (hnews : ∀ j u, news[j]? = some u → w.cell? (a.add j) = some u) (h1 : ∀ u ∈ news, u.oneCell' = true)
    (hroom : sLen + m ≤ sCap) (hfit : off + sLen * i.size + news.length ≤ cur.size) :
    (Builtin.append_ #[t, t] ty #[.slice (some ⟨g, off, none⟩) sLen sCap, .slice (some a) m c]).run P w =
      .ok (.slice (some ⟨g, off, none⟩) (sLen + m) sCap) (w.setRow g (cur.toList.take (off + sLen * i.size) ++ news ++ cur.toList.drop (off + sLen * i.size + news.length)).toArray) := by
  have hf := run_firstCells_some (P := P) w i.size m a m c news hl hnews
  have hst := run_storeCells_at P g (off + sLen * i.size) e news 0 cur w hg (by simpa using hfit) h1
  simp only [Nat.add_zero] at hst
  simp [Builtin.append_, run_underlying ht, sizeOf, typeInfo, hi, Builtin.lenOf, hroom, hf, addr_add, hst]
def OwnAt (w : World) (base : Nat) (e : TypeId) (size : Nat) (v : Value) (n : Nat) (xs : List Value) : Prop :=
  xs.length = n * size ∧
  ((v = .slice none 0 0 ∧ n = 0) ∨
   ∃ g off cap cur, v = .slice (some ⟨g, off, none⟩) n cap ∧ base ≤ g ∧ w.heap[g]? = some (.cells cur e (0, 0)) ∧ n ≤ cap ∧ cap ≤ maxLen ∧ off + cap * size ≤ cur.size ∧ (cur.toList.drop off).take (n * size) = xs)
section
variable {w w' : World} {base : Nat} {e : TypeId} {size : Nat} {v : Value} {n : Nat} {xs : List Value}
theorem OwnAt.of_owns (h : w.ownsRow base e size v n xs) : OwnAt w base e size v n xs := by
  refine ⟨h.1, ?_⟩
  rcases h.2 with hn | ⟨g, cap, cur, h1, h2, h3, h4, h5, h6, h7⟩
  · exact .inl hn
  · exact .inr ⟨g, 0, cap, cur, h1, h2, h3, h4, h5, by omega, by simpa using h7⟩
theorem OwnAt.lt (h : OwnAt w base e size v n xs) : ∀ k, v.ownBlock = some k → base ≤ k ∧ k < w.heap.size := by
  intro k hk
  rcases h.2 with ⟨rfl, _⟩ | ⟨g, off, cap, cur, rfl, h2, h3, _⟩
  · cases hk
  · obtain rfl := Option.some.inj hk
    exact ⟨h2, lt_of_get h3⟩
theorem OwnAt.keep {S : Nat → Prop} (h : OwnAt w base e size v n xs) (k : Keep S w w') (hS : ∀ b, v.ownBlock = some b → ¬ S b) : OwnAt w' base e size v n xs := by
  refine ⟨h.1, ?_⟩
  rcases h.2 with hn | ⟨g, off, cap, cur, rfl, h2, h3, rest⟩
  · exact .inl hn
  · exact .inr ⟨g, off, cap, cur, rfl, h2, k.get h3 (hS g rfl), rest⟩
theorem OwnAt.later (h : OwnAt w base e size v n xs) (b : Below w.heap.size w w') : OwnAt w' base e size v n xs :=
  h.keep (Keep.of_below b) (fun b hb => by have := (h.lt b hb).2; omega)
theorem OwnAt.slOf (h : OwnAt w base e size v n xs) : SlOf (fun b => base ≤ b ∧ v.ownBlock = some b) w v size xs n := by
  refine ⟨h.1, ?_⟩
  rcases h.2 with ⟨rfl, rfl⟩ | ⟨g, off, cap, cur, rfl, h2, h3, h4, h5, h6, h7⟩
  · exact ⟨none, 0, rfl, Nat.le_refl _, by simp [maxLen], fun _ => rfl, fun hp => by have := h.1; omega⟩
  · refine ⟨_, cap, rfl, h4, h5, (fun h => by cases h), fun hp => ⟨g, off, rfl, ⟨h2, rfl⟩, lt_of_get h3, fun k u hu => ?_⟩⟩
    have hk : k < xs.length := (List.getElem?_eq_some_iff.1 hu).1
    rw [← h7, List.getElem?_take_of_lt (by rw [h.1] at hk; exact hk), List.getElem?_drop] at hu
    simp only [World.cell?, h3]
    simpa using hu
theorem OwnAt.val (h : OwnAt w base e size v n xs) : ∃ ao cap, v = .slice ao n cap := by
  rcases h.2 with ⟨rfl, rfl⟩ | ⟨g, off, cap, cur, rfl, _⟩
  · exact ⟨_, _, rfl⟩
  · exact ⟨_, _, rfl⟩
theorem OwnAt.cells {g off cap : Nat} (h : OwnAt w base e size (.slice (some ⟨g, off, none⟩) n cap) n xs) : ∀ j u, xs[j]? = some u → w.cell? ((⟨g, off, none⟩ : Addr).add j) = some u := by
  intro j u hu
  rcases h.2 with ⟨h, _⟩ | ⟨g', off', cap', cur, hv, h2, h3, h4, h5, h6, h7⟩
  · cases h
  · obtain ⟨e1, _, _⟩ := Value.slice.inj hv
    obtain ⟨rfl, rfl, _⟩ := Addr.mk.inj (Option.some.inj e1)
    have hk : j < xs.length := (List.getElem?_eq_some_iff.1 hu).1
    rw [← h7, List.getElem?_take_of_lt (by rw [h.1] at hk; exact hk), List.getElem?_drop] at hu
    rw [addr_add]
    simp only [World.cell?, h3]
    simpa using hu
end
theorem run_append_off {P : Program} (w : World) (base : Nat) (t ty e : TypeId) (i : TypeInfo) (z : Value) (size bytes : Nat) (ht : P.underlying t = some (.slice e)) (hi : P.info? e = some i) (hz : i.zero = some z)
    (hsize : i.size = size) (hby : i.bytes = bytes) (hzs : z.cells.size = size) (hsz : 0 < size)
    (v : Value) (n : Nat) (xs : List Value) (hown : OwnAt w base e size v n xs)
    (a : Addr) (m c : Nat) (news : List Value) (hl : news.length = m * size) (hnews : ∀ j u, news[j]? = some u → w.cell? (a.add j) = some u) (h1 : ∀ u ∈ news, u.oneCell' = true)
    (h63 : n + m ≤ maxLen) (hbytes : (n + m) * bytes ≤ 140737488355328) (hbase : base ≤ w.heap.size) :
    ∃ v' w', (Builtin.append_ #[t, t] ty #[v, .slice (some a) m c]).run P w = .ok v' w' ∧ OwnAt w' base e size v' (n + m) (xs ++ news) ∧ w.grownBy w' v.ownBlock ∧ (v'.ownBlock = v.ownBlock ∨ ∀ b, v'.ownBlock = some b → w.heap.size ≤ b) := by
  rcases hown.2 with hv | ⟨g, off, cap, cur, rfl, hbg, hg, hnc, hcm, hcs, htake⟩
  · obtain ⟨rfl, rfl⟩ := hv
    have ho : w.ownsRow base e size (.slice none 0 0) 0 xs := ⟨hown.1, .inl ⟨rfl, rfl⟩⟩
    obtain ⟨v', w', hr, h2, h3, _⟩ := run_append_own (P := P) w base t ty e i z size bytes ht hi hz hsize hby hzs hsz _ 0 xs ho a m c news hl hnews h1 h63 hbytes hbase
    refine ⟨v', w', hr, .of_owns h2, h3, .inr (fun b hb => ?_)⟩
    have hx : xs = [] := List.eq_nil_of_length_eq_zero (by simpa using hown.1)
    subst hx
    have ho2 : w.ownsRow w.heap.size e size (.slice none 0 0) 0 [] := World.ownsRow_nil _ _ _ _
    obtain ⟨v2, w2, hr2, h22, _⟩ := run_append_own (P := P) w w.heap.size t ty e i z size bytes ht hi hz hsize hby hzs hsz _ 0 [] ho2 a m c news hl hnews h1 h63 hbytes (Nat.le_refl _)
    rw [hr] at hr2
    injection hr2 with e1 e2
    subst e1
    exact (h22.lt b hb).1
  · subst hsize
    subst hby
    have hlen : (xs ++ news).length = (n + m) * i.size := by rw [List.length_append, hown.1, hl, Nat.add_mul]
    by_cases hroom : n + m ≤ cap
    · have hmul : (n + m) * i.size ≤ cap * i.size := Nat.mul_le_mul_right _ hroom
      have hfit : off + n * i.size + news.length ≤ cur.size := by rw [hl]; rw [Nat.add_mul] at hmul; omega
      have hr := run_append_room_off (P := P) w t ty e i ht hi g off n cap cur hg a m c news hl hnews h1 hroom hfit
      refine ⟨_, _, hr, ⟨hlen, .inr ⟨g, off, cap, _, rfl, hbg, setRow_heap w g cur _ e _ hg, hroom, hcm, ?_, ?_⟩⟩, ⟨rfl, rfl, rfl, by simp, fun k _ hk => setRow_other w g k _ (fun e => hk (by simp [Value.ownBlock, e]))⟩, .inl rfl⟩
      · simp only [List.size_toArray, List.length_append, List.length_take, List.length_drop, Array.length_toList]
        omega
      · have ho : off ≤ cur.toList.length := by rw [Array.length_toList]; omega
        have e1 : cur.toList.take (off + n * i.size) = cur.toList.take off ++ xs := by rw [← htake, ← List.take_add]
        rw [e1, List.toList_toArray]
        simp only [List.append_assoc]
        rw [List.drop_append_of_le_length (by rw [List.length_take]; omega), List.drop_eq_nil_of_le (by rw [List.length_take]; omega), List.nil_append, ← List.append_assoc, ← hlen]
        exact List.take_left
    · have hsmall : n + m ≤ 9223372036854775807 := by simp only [maxLen] at h63; omega
      have hr := run_append_grow (P := P) w t ty e i z ht hi hz ⟨g, off, none⟩ n cap xs hown.1 hown.cells a m c news hl hnews (by omega) (by omega) (growslice_fits (by omega) hbytes)
      have hge := grownCap_ge w (n + m) cap e
      have hcm : grownCap w (n + m) cap e ≤ maxLen := grownCap_le_maxLen w (n + m) cap e h63
      refine ⟨_, _, hr, .of_owns ⟨hlen, .inr ⟨w.heap.size, _, _, rfl, hbase, heap_alloc_new w.drew _, hge, hcm, ?_, ?_⟩⟩, ⟨rfl, rfl, rfl, by simp, fun k hk _ => Below.heap_alloc _ _ _ hk⟩, .inr (fun b hb => by obtain rfl := Option.some.inj hb; exact Nat.le_refl _)⟩
      · simp only [Array.size_append, List.size_toArray, size_zeroCells, hzs, hown.1, hl, ← Nat.add_mul]
        congr 1
        omega
      · simp only [Array.toList_append, List.append_assoc]
        rw [← List.append_assoc, ← hlen]
        exact List.take_left
theorem wpList_append_off {P : Program} {w : World} {ops : Array Oper} {rest : List Oper} {o : Oper} {a : Act} {Q : Exit → Act → World → Prop} (hgd : o.guard = none) (s x : Operand) (t : TypeId)
    (ho : o.op = .call { callee := .builtin .append, args := #[s, x], argTypes := #[t, t] })
    (base : Nat) (e : TypeId) (i : TypeInfo) (z : Value) (size bytes : Nat) (ht : P.underlying t = some (.slice e)) (hi : P.info? e = some i) (hz : i.zero = some z)
    (hsize : i.size = size) (hby : i.bytes = bytes) (hzs : z.cells.size = size) (hsz : 0 < size)
    (v : Value) (n : Nat) (xs : List Value) (hs : a.eval s = v) (hown : OwnAt w base e size v n xs)
    (ad : Addr) (m c : Nat) (news : List Value) (hx : a.eval x = .slice (some ad) m c) (hl : news.length = m * size) (hnews : ∀ j u, news[j]? = some u → w.cell? (ad.add j) = some u) (h1 : ∀ u ∈ news, u.oneCell' = true)
    (h63 : n + m ≤ maxLen) (hbytes : (n + m) * bytes ≤ 140737488355328) (hbase : base ≤ w.heap.size)
    (h : ∀ ao cap w', OwnAt w' base e size (.slice ao (n + m) cap) (n + m) (xs ++ news) → w.grownBy w' v.ownBlock → ((Value.slice ao (n + m) cap).ownBlock = v.ownBlock ∨ ∀ b, (Value.slice ao (n + m) cap).ownBlock = some b → w.heap.size ≤ b) → wpList P ops Q rest (a.put o.dst (.slice ao (n + m) cap)) w') :
    wpList P ops Q (o :: rest) a w := by
  refine wpList_plain hgd fun _ hK => ?_
  obtain ⟨v', w', hr, ho', hg, hst⟩ := run_append_off (P := P) w base t o.type e i z size bytes ht hi hz hsize hby hzs hsz v n xs hown ad m c news hl hnews h1 h63 hbytes hbase
  obtain ⟨ao, cap, rfl⟩ := ho'.val
  unfold Oper.wp execOp
  simp only [ho, resolve, invoke, builtin, Sem.run_bind, Sem.run_pure, Result.andThen_ok, List.map_toArray, List.map_cons, List.map_nil, hs, hx, hr]
  exact hK _ _ (h ao cap w' ho' hg hst)
theorem step_append_off {P : Program} {w : World} {ops : Array Oper} {o : Oper} {a : Act} {K : Act → World → Prop} {Q : Exit → Act → World → Prop} {E : Prop} (hgd : o.guard = none) (s x : Operand) (t : TypeId)
    (ho : o.op = .call { callee := .builtin .append, args := #[s, x], argTypes := #[t, t] })
    (base : Nat) (e : TypeId) (i : TypeInfo) (z : Value) (size bytes : Nat) (ht : P.underlying t = some (.slice e)) (hi : P.info? e = some i) (hz : i.zero = some z)
    (hsize : i.size = size) (hby : i.bytes = bytes) (hzs : z.cells.size = size) (hsz : 0 < size)
    (v : Value) (n : Nat) (xs : List Value) (hs : a.eval s = v) (hown : OwnAt w base e size v n xs)
    (ad : Addr) (m c : Nat) (news : List Value) (hx : a.eval x = .slice (some ad) m c) (hl : news.length = m * size) (hnews : ∀ j u, news[j]? = some u → w.cell? (ad.add j) = some u) (h1 : ∀ u ∈ news, u.oneCell' = true)
    (h63 : n + m ≤ maxLen) (hbytes : (n + m) * bytes ≤ 140737488355328) (hbase : base ≤ w.heap.size)
    (h : ∀ ao cap w', OwnAt w' base e size (.slice ao (n + m) cap) (n + m) (xs ++ news) → w.grownBy w' v.ownBlock → ((Value.slice ao (n + m) cap).ownBlock = v.ownBlock ∨ ∀ b, (Value.slice ao (n + m) cap).ownBlock = some b → w.heap.size ≤ b) → K (a.put o.dst (.slice ao (n + m) cap)) w') :
    if Region.wanted o (yielded ops a.tmps) = true then Oper.wp P o a w K Q else E := by
  have hw : Region.wanted o (yielded ops a.tmps) = true := by simp [Region.wanted, hgd]
  rw [if_pos hw]
  obtain ⟨v', w', hr, ho', hg, hst⟩ := run_append_off (P := P) w base t o.type e i z size bytes ht hi hz hsize hby hzs hsz v n xs hown ad m c news hl hnews h1 h63 hbytes hbase
  obtain ⟨ao, cap, rfl⟩ := ho'.val
  unfold Oper.wp execOp
  simp only [ho, resolve, invoke, builtin, Sem.run_bind, Sem.run_pure, Result.andThen_ok, List.map_toArray, List.map_cons, List.map_nil, hs, hx, hr]
  exact h ao cap w' ho' hg hst
end Go.Proofs.YtikehilbmldadaaGreatDoor
namespace Go.Proofs.YtikehilbmldadaaGreatDoor
open Go.RowKit
set_option linter.unusedVariables false
theorem kpEndN_stuck {M : KpM} {k : Nat} (h : (kpEndN M k).1 ≠ 0) : ∀ j, kpEndN M (k + j) = kpEndN M k
  | 0 => rfl
  | j + 1 => by
    have ih := kpEndN_stuck h j
    show (if (kpEndN M (k + j)).1 ≠ 0 then kpEndN M (k + j) else kpEnd1 (kpEndN M (k + j)).2 (k + j)) = _
    rw [ih, if_pos h]
theorem kpEnd_bad {M : KpM} {k q : Nat} {M' : KpM} (h : kpEndN M k = (q + 1, M')) (hk : k ≤ M.A.length) : kpEnd M = (q + 1, M') := by
  have h1 : (kpEndN M k).1 ≠ 0 := by rw [h]; exact Nat.succ_ne_zero q
  have h2 := kpEndN_stuck h1 (M.A.length - k)
  rw [show k + (M.A.length - k) = M.A.length by omega, h] at h2
  unfold kpEnd
  rw [h2, if_pos (Nat.succ_ne_zero q)]
theorem kpEnd_good {M M' : KpM} (h : kpEndN M M.A.length = (0, M')) : kpEnd M = (0, kpKick (kpTot M')) := by
  unfold kpEnd
  rw [h, if_neg (fun h => h rfl)]
theorem kpEndN_next {M M' : KpM} {k : Nat} (h : kpEndN M k = (0, M')) : kpEndN M (k + 1) = kpEnd1 M' k := by
  show (if (kpEndN M k).1 ≠ 0 then kpEndN M k else kpEnd1 (kpEndN M k).2 k) = _
  rw [h, if_neg (fun h => h rfl)]
theorem kpSet_take (M : KpM) (k : Nat) (a : Option LocM) : (kpSet M k a).A.take k = M.A.take k := by
  show (M.A.set k a).take k = _
  rw [List.take_set_of_le (Nat.le_refl k)]
theorem take_stat {M : KpM} {k : Nat} (h : k < M.A.length) : (M.A.take (k + 1)).map kpStat = (M.A.take k).map kpStat ++ [kpStat (kpGet M k)] := by
  rw [List.take_succ_eq_append_getElem h, List.map_append]
  unfold kpGet
  rw [List.getD_eq_getElem?_getD, List.getElem?_eq_getElem h]; rfl
theorem strCells_snoc (l : List ByteArray) (s : ByteArray) : strCells1 (l ++ [s]) = strCells1 l ++ [.string s] := by simp [strCells1]
def xLv (x : KpX) (lv : Value) : KpX := ⟨x.d, x.rb, x.cap, x.rg, x.tb, lv, x.ve, x.vl, x.X, x.ls⟩
structure EndSt (B : Nat) (sa : Nat → Addr) (w0 : World) (kb c : Nat) (txt : ByteArray) (x : KpX) (M : KpM) (T : Nat) (o : Nat → Nat) (w : World) (q j k : Nat) (v : Value) (M' : KpM) (lv : Value) (o' : Nat → Nat) (wr : World) : Prop where
  e : kpEndN M j = (q, M')
  st : KpIn B sa w0 kb c txt (xLv x lv) M' o' wr
  fr : Fr o o' w wr
  row : OwnAt wr w.heap.size 9 1 v k (strCells1 ((M'.A.take k).map kpStat))
  rb : ∀ b, v.ownBlock = some b → o' b = 0
  mid : KpMid M T j M'
  off : q = 0 → M'.m.off = false
section
variable {B : Nat} {sa : Nat → Addr} {w0 : World} {kb c : Nat} {txt : ByteArray} {x : KpX} {M M' : KpM} {T : Nat} {o o' : Nat → Nat} {w wr w1 : World} {q j k : Nat} {v lv : Value}
theorem endSt_start (h : KpIn B sa w0 kb c txt x M o w) (hO : KpOk M T) (ho : M.m.off = false) : EndSt B sa w0 kb c txt x M T o w 0 0 0 (.slice none 0 0) M x.lv o w :=
  ⟨rfl, h, Fr.refl _ _, ⟨rfl, .inl ⟨rfl, rfl⟩⟩, (fun b hb => by cases hb), (kpEndN_mid hO ho 0 (Nat.zero_le _)).1, fun _ => ho⟩
theorem EndSt.below (h : EndSt B sa w0 kb c txt x M T o w q j k v M' lv o' wr) (b : Below wr.heap.size wr w1) : EndSt B sa w0 kb c txt x M T o w q j k v M' lv o' w1 :=
  ⟨h.e, h.st.below b, h.fr.trans (Fr.below _ b), h.row.later b, h.rb, h.mid, h.off⟩
theorem EndSt.rowk {o2 : Nat → Nat} (h : EndSt B sa w0 kb c txt x M T o w q j k v M' lv o' wr) (f : Fr o' o2 wr w1) : OwnAt w1 w.heap.size 9 1 v k (strCells1 ((M'.A.take k).map kpStat)) ∧ ∀ b, v.ownBlock = some b → o2 b = 0 :=
  ⟨h.row.keep f.kp (fun b hb hh => hh (h.rb b hb)), fun b hb => by rw [f.agree b (h.row.lt b hb).2]; exact h.rb b hb⟩
theorem EndSt.mid1 (h : EndSt B sa w0 kb c txt x M T o w 0 k k v M' lv o' wr) (hO : KpOk M T) (hk : k < M.A.length) :
    KpMid M T (k + 1) (kpEnd1 M' k).2 ∧ ((kpEnd1 M' k).1 = 0 → (kpEnd1 M' k).2.m.off = false) ∧ ((kpEnd1 M' k).1 = 0 ∨ (kpEnd1 M' k).1 = 8) := by
  have h8 := hO.an8
  have hd := hO.dog
  exact kpEnd1_mid h.mid hO.t (by rw [h.mid.eA]; exact hk) (by rw [h.mid.eA]; exact h8) (h.off rfl) (by rw [h.mid.eD]; have := hd.l0; have := hd.ln; omega) (by rw [h.mid.eD]; exact hd.n1)
theorem EndSt.idle (h : EndSt B sa w0 kb c txt x M T o w 0 k k v M' lv o' wr) (hO : KpOk M T) (hk : k < M.A.length) (ha : kpGet M' k = none) : EndSt B sa w0 kb c txt x M T o w 0 (k + 1) k v M' lv o' wr := by
  have hm := h.mid1 hO hk
  rw [kpEnd1_none ha] at hm
  exact ⟨by rw [kpEndN_next h.e, kpEnd1_none ha], h.st, h.fr, h.row, h.rb, hm.1, hm.2.1⟩
theorem EndSt.ended {l p t : Nat} {y : EntX} {a : LocM} (h : EndSt B sa w0 kb c txt x M T o w 0 k k v M' lv o' wr) (hO : KpOk M T) (hk : k < M.A.length) (ha : kpGet M' k = some a) (h1 : x.ls[k]? = some l) (h2 : x.X[k]? = some y) (hE : kpEnt M' k = y.E) (hw : ∀ b, p ≤ b → b < t → o' b = 11 + 2 * k)
    (kk : Keep (fun b => p ≤ b ∧ b < t) wr w1) (hl : LocAt l p t y.E y.p y.g y.e y.f y.l (locEnd y.E a) w1) (hn : locNow (kpEnt M' k) a = false) :
    EndSt B sa w0 kb c txt x M T o w 0 (k + 1) k v (kpSet M' k (some (locEnd (kpEnt M' k) a))) lv o' w1 := by
  have hm := h.mid1 hO hk
  have hn' : ¬ locNow (kpEnt M' k) a = true := by rw [hn]; decide
  rw [kpEnd1_not ha hn'] at hm
  obtain ⟨z1, z2⟩ := KpIn.watch (x := xLv x lv) h.st h1 h2 hw kk hl
  rw [← hE] at z1
  obtain ⟨r1, r2⟩ := h.rowk z2
  exact ⟨by rw [kpEndN_next h.e, kpEnd1_not ha hn'], z1, h.fr.trans z2, by rw [kpSet_take]; exact r1, r2, hm.1, hm.2.1⟩
theorem EndSt.logged {l p t : Nat} {y : EntX} {a : LocM} {lv' : Value} {W w2 : World} {r : Nat × RecV × CM × List RecV × Bool} (h : EndSt B sa w0 kb c txt x M T o w 0 k k v M' lv o' wr) (hO : KpOk M T) (hk : k < M.A.length) (ha : kpGet M' k = some a) (h1 : x.ls[k]? = some l) (h2 : x.X[k]? = some y) (hE : kpEnt M' k = y.E) (hw : ∀ b, p ≤ b → b < t → o' b = 11 + 2 * k)
    (kk : Keep (fun b => p ≤ b ∧ b < t) wr w1) (hl : LocAt l p t y.E y.p y.g y.e y.f y.l (locEnd y.E a) w1) (hn : locNow (kpEnt M' k) a = true) (hb : Below w1.heap.size w1 W) (hr : ringApp M'.m M'.L M'.dead k (locKind (kpEnt M' k) a) M'.D.now = r)
    (h3 : RSt B sa w0 x.rg c x.rb x.cap r.2.2.1 r.2.2.2.2 r.2.2.2.1 lv' w2) (k2 : Keep (fun b => b = c ∨ b = x.rb ∨ b = x.rg ∨ W.heap.size ≤ b) W w2) (hv : lv' = lv ∨ NewV W w2 lv') :
    (r.1 = 0 ∨ r.1 = 8) ∧ ∃ o2, EndSt B sa w0 kb c txt x M T o w r.1 (k + 1) k v { kpSet M' k (some (locEnd (kpEnt M' k) a)) with m := r.2.2.1, L := r.2.2.2.1, dead := r.2.2.2.2 } lv' o2 w2 ∧ ∀ b, w1.heap.size ≤ b → b < W.heap.size → o2 b = 0 := by
  have hm := h.mid1 hO hk
  rw [kpEnd1_now ha hn hr] at hm
  obtain ⟨z1, z2⟩ := KpIn.watch (x := xLv x lv) h.st h1 h2 hw kk hl
  rw [← hE] at z1
  obtain ⟨o2, z3, z4⟩ := (z1.below hb).app (lv' := lv') h3 k2 hv
  obtain ⟨r1, r2⟩ := h.rowk ((z2.trans (Fr.below _ hb)).trans z4)
  exact ⟨hm.2.2, o2, ⟨by rw [kpEndN_next h.e, kpEnd1_now ha hn hr], z3, h.fr.trans ((z2.trans (Fr.below _ hb)).trans z4), by
    show OwnAt w2 w.heap.size _ 1 v k (strCells1 (((kpSet M' k (some (locEnd (kpEnt M' k) a))).A.take k).map kpStat))
    rw [kpSet_take]; exact r1, r2, hm.1, hm.2.1⟩, fun b hb1 hb2 => by
      rw [z4.agree b hb2]
      cases hz : o' b with
      | zero => rfl
      | succ z => have := (z1.b.low b (by rw [hz]; exact Nat.succ_ne_zero z)).2; omega⟩
theorem EndSt.rst {l p t : Nat} {y : EntX} {a : LocM} {W : World} (h : EndSt B sa w0 kb c txt x M T o w 0 k k v M' lv o' wr) (h1 : x.ls[k]? = some l) (h2 : x.X[k]? = some y) (hw : ∀ b, p ≤ b → b < t → o' b = 11 + 2 * k)
    (kk : Keep (fun b => p ≤ b ∧ b < t) wr w1) (hl : LocAt l p t y.E y.p y.g y.e y.f y.l (locEnd y.E a) w1) (hb : Below w1.heap.size w1 W) : RSt B sa w0 x.rg c x.rb x.cap M'.m M'.dead M'.L lv W := by
  obtain ⟨z1, z2⟩ := KpIn.watch (x := xLv x lv) h.st h1 h2 hw kk hl
  exact (z1.below hb).rst
theorem EndSt.next {a2 : Option Addr} {k2 : Nat} (h : EndSt B sa w0 kb c txt x M T o w 0 (k + 1) k v M' lv o' wr) (hk : k < M.A.length) (hw0 : w0.heap.size ≤ w.heap.size) {W : World} (hb : Below wr.heap.size wr W) (ho : OwnAt w1 w.heap.size 9 1 (.slice a2 (k + 1) k2) (k + 1) (strCells1 ((M'.A.take k).map kpStat) ++ [.string (kpStat (kpGet M' k))]))
    (hg : W.grownBy w1 v.ownBlock) (hn : (Value.slice a2 (k + 1) k2).ownBlock = v.ownBlock ∨ ∀ b, (Value.slice a2 (k + 1) k2).ownBlock = some b → W.heap.size ≤ b) :
    EndSt B sa w0 kb c txt x M T o w 0 (k + 1) (k + 1) (.slice a2 (k + 1) k2) M' lv o' w1 := by
  have hW := h.below hb
  have kg : Keep (fun b => some b = v.ownBlock) W w1 := Keep.of_grown hg
  have hrl := fun b hh => (hW.row.lt b hh)
  have kt : KpIn B sa w0 kb c txt (xLv x lv) M' o' w1 := hW.st.far kg (fun b hl hh => ⟨h.rb b hh.symm, Nat.le_trans hw0 (hrl b hh.symm).1⟩)
  refine ⟨h.e, kt, ⟨hW.fr.kp.step kg (fun b hb hl => by have := (hrl b hb.symm).1; omega), hW.fr.agree⟩, ?_, fun b hb => ?_, h.mid, h.off⟩
  · rw [take_stat (by rw [h.mid.eA]; exact hk), strCells_snoc]; exact ho
  · rcases hn with hn | hn
    · rw [hn] at hb; exact h.rb b hb
    · have h2 := hn b hb
      cases hz : o' b with
      | zero => rfl
      | succ z =>
        have := (hW.st.b.low b (by rw [hz]; exact Nat.succ_ne_zero z)).2
        omega
theorem EndSt.stat {l : Nat} {y : EntX} (h : EndSt B sa w0 kb c txt x M T o w q j k v M' lv o' wr) (i : Nat) (h1 : x.ls[i]? = some l) (h2 : x.X[i]? = some y) :
    Calls Tryz.prog 153 #[.pointer (some ⟨l, 0, none⟩)] wr fun e w' => e = .returned (.string (kpStat (kpGet M' i))) ∧ wr = w' := by
  obtain ⟨p1, p, t, p2, p3⟩ := h.st.loc i l y h1 h2
  cases ha : kpGet M' i with
  | none =>
    rw [ha] at p3
    exact localStatus_idle l y.E y.p y.g y.e y.f y.l wr p3
  | some a =>
    rw [ha] at p3
    exact localStatus_any l p t y.E y.p y.g y.e y.f y.l a wr p3
theorem EndSt.lay (h : EndSt B sa w0 kb c txt x M T o w 0 (k + 1) k v M' lv o' wr) (hk : k < M.A.length) (hw0 : w0.heap.size ≤ w.heap.size) :
    (∀ x : Obj, OwnAt (wr.alloc x) w.heap.size 9 1 v k (strCells1 ((M'.A.take k).map kpStat)) ∧ w.heap.size ≤ (wr.alloc x).heap.size) ∧
    ∀ (x2 : Obj) (W4 : World) (a2 : Option Addr) (k2 : Nat), OwnAt W4 w.heap.size 9 1 (.slice a2 (k + 1) k2) (k + 1) (strCells1 ((M'.A.take k).map kpStat) ++ [.string (kpStat (kpGet M' k))]) → (wr.alloc x2).grownBy W4 v.ownBlock →
      ((Value.slice a2 (k + 1) k2).ownBlock = v.ownBlock ∨ ∀ b, (Value.slice a2 (k + 1) k2).ownBlock = some b → (wr.alloc x2).heap.size ≤ b) → EndSt B sa w0 kb c txt x M T o w 0 (k + 1) (k + 1) (.slice a2 (k + 1) k2) M' lv o' W4 :=
  ⟨fun x => ⟨h.row.later ((Below.refl _ _).alloc (Nat.le_refl _) x), by rw [World.size_alloc]; have := h.fr.kp.size; omega⟩, fun x2 W4 a2 k2 ho hg hn => h.next hk hw0 ((Below.refl _ _).alloc (Nat.le_refl _) x2) ho hg hn⟩
theorem EndSt.half {l p t : Nat} {y : EntX} {a : LocM} (h : EndSt B sa w0 kb c txt x M T o w 0 k k v M' lv o' wr) (h1 : x.ls[k]? = some l) (h2 : x.X[k]? = some y) (hw : ∀ b, p ≤ b → b < t → o' b = 11 + 2 * k)
    (kk : Keep (fun b => p ≤ b ∧ b < t) wr w1) (hl : LocAt l p t y.E y.p y.g y.e y.f y.l (locEnd y.E a) w1) :
    w1.cell? ⟨kb, 0, none⟩ = some (.pointer (some ⟨x.d, 0, none⟩)) ∧ w1.cell? ⟨kb, 7, none⟩ = some (.pointer (some ⟨x.rg, 0, none⟩)) ∧ DogAt w1 x.d M'.D := by
  obtain ⟨z1, z2⟩ := KpIn.watch (x := xLv x lv) h.st h1 h2 hw kk hl
  obtain ⟨k0, _, _, _, _, _, _, k7, _⟩ := kp_cells z1.box
  exact ⟨k0, k7, z1.b.dog⟩
theorem CellsAt.lts {w : World} {c rb cap : Nat} {m : CM} (h : CellsAt w c rb (some ⟨rb, 0, none⟩) cap m) : c < w.heap.size ∧ rb < w.heap.size := by
  obtain ⟨C, t, hh, _⟩ := h.row rfl
  exact ⟨lt_of_get h.box, lt_of_get hh⟩
theorem EndSt.lts (h : EndSt B sa w0 kb c txt x M T o w q j k v M' lv o' wr) : c < wr.heap.size ∧ x.rb < wr.heap.size ∧ x.rg < wr.heap.size := by
  have := CellsAt.lts (rb := x.rb) h.st.b.mem
  exact ⟨this.1, this.2, lt_of_get h.st.rbox⟩
theorem EndSt.bds (h : EndSt B sa w0 kb c txt x M T o w 0 k k v M' lv o' wr) (hT : T ≤ 400000) (hk : k ≤ 8) : CMOk M'.m (200 * T + 18 * k) ∧ ((200 * T + 18 * k : Nat) : Int) ≤ 900000000 ∧ 153 ≤ M'.m.bs.length ∧ M'.L.length ≤ 100 ∧ (lastZ M'.L).seq < 4294967296 := by
  obtain ⟨D, d1, d2, d3⟩ := h.mid.log
  have hl := h.mid.len
  refine ⟨h.mid.cm.mono (by omega), by omega, by omega, ?_, ?_⟩
  · rw [d3, lastR_len]; omega
  · rw [d3, lastZ_lastR (fun j hj => (d1.seq j hj).1)]; omega
theorem EndSt.boxB (h : EndSt B sa w0 kb c txt x M T o w q j k v M' lv o' wr) {z : Nat} (hz : o' z = 0) (h0 : w0.heap.size ≤ w.heap.size) (hw : w.heap.size ≤ z) (hv : ∀ b, v.ownBlock = some b → b ≠ z) (a b d e : Value) :
    EndSt B sa w0 kb c txt x M T o w q j k v M' lv o' ((((wr.setCell ⟨z, 0, none⟩ a).setCell ⟨z, 1, none⟩ b).setCell ⟨z, 2, none⟩ d).setCell ⟨z, 3, none⟩ e) := by
  have k := keep_set4 wr z a b d e
  exact ⟨h.e, h.st.far k (fun b _ hb => by rw [hb]; exact ⟨hz, Nat.le_trans h0 hw⟩), ⟨h.fr.kp.step k (fun b hb hl => by omega), h.fr.agree⟩, h.row.keep k (fun b hb hh => hv b hb hh), h.rb, h.mid, h.off⟩
theorem EndSt.fin (h : EndSt B sa w0 kb c txt x M T o w q j M.A.length v M' lv o' wr) : SlOf (fun b => w.heap.size ≤ b ∧ v.ownBlock = some b) wr v 1 (strCells1 (M'.A.map kpStat)) (M'.A.map kpStat).length := by
  have := h.row.slOf
  rw [← h.mid.eA, List.take_length] at this
  rwa [List.length_map]
end
end Go.Proofs.YtikehilbmldadaaGreatDoor
