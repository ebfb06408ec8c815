import Derived.Test.YtikehilbmldadaaGreatDoorQ30
import Derived.Test.YtikehilbmldadaaGreatDoorQ36
import Derived.Deep.DeepCutAuto
import Derived.Deep.DeepMust
import Derived.BigQuiet
import Derived.Test.YtikehilbmldadaaGreatDoorQ35
import Derived.Test.YtikehilbmldadaaGreatDoorQ24
import Derived.Test.YtikehilbmldadaaGreatDoorQ22
set_option maxHeartbeats 8000000
set_option maxRecDepth 100000
namespace Go.Proofs.YtikehilbmldadaaGreatDoor
open Go.RowKit
set_option linter.unusedVariables false
theorem zeroCmd (w : World) : (zeroValue 163).run Tryz.prog w = .ok (.agg #[.int .i64 0, .nilFunc]) w := by kernel_rfl
structure PlC (w1 W : World) (mb : Nat) (b : Nat → Nat) (w2 : World) : Prop where
  map : w2.heap[mb]? = some (mapO (cmd14 b))
  box : ∀ k, k < 7 → w2.heap[b k]? = some (.cells #[fnV (sayF.getD k 0)] 220)
  bel : Below W.heap.size W w2
  bl1 : Below w1.heap.size w1 w2
theorem PlC.old {w1 W : World} {mb : Nat} {b : Nat → Nat} {w2 : World} (h : PlC w1 W mb b w2) (q : Nat) (y : Obj) (hy : W.heap[q]? = some y) : w2.heap[q]? = some y := below_get h.bel hy (lt_of_get hy)
theorem PlC.cell {w1 W : World} {mb : Nat} {b : Nat → Nat} {w2 : World} (h : PlC w1 W mb b w2) {q : Nat} {v : Value} (hy : w1.cell? ⟨q, 0, none⟩ = some v) : w2.cell? ⟨q, 0, none⟩ = some v := by
  rw [h.bl1.cell (p := ⟨q, 0, none⟩) (World.block_lt_of_cell? w1 ⟨q, 0, none⟩ hy)]; exact hy
theorem plC_any (w1 W : World) (hW : Below w1.heap.size w1 W) : Calls Tryz.prog 76 #[] W fun e w' => ∃ mb b, e = .returned (.map (some mb)) ∧ PlC w1 W mb b w' := by
  refine (commands_any W).mono ?_
  rintro e w' ⟨b, rfl, h1, h2, h3⟩
  exact ⟨_, b, rfl, h1, h2, h3, hW.trans (h3.mono hW.size)⟩
theorem cmd_cells {w : World} {q : Nat} {u v : Value} (h : w.heap[q]? = some (.cells #[u, v] 163)) : w.cell? ⟨q, 0, none⟩ = some u ∧ w.cell? ⟨q, 1, none⟩ = some v ∧ ∀ k, w.frozen? ⟨q, k, none⟩ = false := by
  simp [World.cell?, World.frozen?, h]
structure PlD (w1 : World) (m : Int) (fv : Value) (b : Nat → Nat) (cb : Nat) (w3 : World) : Prop where
  c : w3.heap[cb]? = some (.cells #[.int .i64 m, fv] 163)
  box : ∀ k, k < 7 → w3.heap[b k]? = some (.cells #[fnV (sayF.getD k 0)] 220)
  bel : Below w1.heap.size w1 w3
  lo : w1.heap.size ≤ cb
theorem PlC.after {w1 W w2 : World} {mb : Nat} {b : Nat → Nat} (h : PlC w1 W mb b w2) (m : Int) (fv : Value) : PlD w1 m fv b w2.heap.size (w2.alloc (.cells #[.int .i64 m, fv] 163)) :=
  ⟨get_alloc_new _ _, fun k hk => get_alloc_old _ (h.box k hk), h.bl1.alloc h.bl1.size _, h.bl1.size⟩
theorem PlC.ahead {w1 W w2 : World} {mb : Nat} {b : Nat → Nat} (h : PlC w1 W mb b w2) (m : Int) (fv u v : Value) (hc : w2.heap[w1.heap.size]? = some (.cells #[u, v] 163)) (hu : u = .int .i64 0) : PlD w1 m fv b w1.heap.size ((w2.setCell ⟨w1.heap.size, 0, none⟩ (.int .i64 m)).setCell ⟨w1.heap.size, 1, none⟩ fv) := by
  have k := (keep_set w2 w1.heap.size 0 (.int .i64 m)).setCell (p := ⟨w1.heap.size, 1, none⟩) (fun _ => rfl) fv
  refine ⟨by rw [get_setCell _ (get_setCell _ hc)]; rfl, fun j hj => k.get (h.box j hj) (fun e => ?_), h.bl1.trans (k.below h.bl1.size (fun b hb => by rw [hb]; exact Nat.le_refl _)), Nat.le_refl _⟩
  have hb := h.box j hj
  rw [show b j = w1.heap.size from e, hc] at hb
  injection hb with hb
  injection hb with h1 h2 h3
  have := congrArg Array.size h1
  simp at this
structure PlL (wc : World) (i : Nat) (r : List ByteArray) (k : Nat) (ns : List Nat) (v : Value) (wr : World) : Prop where
  pre : scPre i r k ns
  own : wr.ownsRow wc.heap.size 3 1 v k (intCells (ns.map fun n : Nat => (n : Int)))
  bel : Below wc.heap.size wc wr
theorem PlL.below {wc wr w' : World} {i k : Nat} {r : List ByteArray} {ns : List Nat} {v : Value} (h : PlL wc i r k ns v wr) (b : Below wr.heap.size wr w') : PlL wc i r k ns v w' :=
  ⟨h.pre, ownsRow_keep' h.own (below_keep b) (fun _ _ _ h => h), h.bel.trans (b.mono h.bel.size)⟩
theorem PlL.next {wc wz W w' : World} {i k n : Nat} {r : List ByteArray} {ns : List Nat} {v v' : Value} (h : PlL wc i r k ns v wz) (hk : k < r.length) (hn : scNum r[k] = some n) (hg : ¬ (k = 0 ∧ i ≠ 3 ∧ i ≠ 4 ∧ 9 < n)) (hb : Below wz.heap.size wz W) (ho : w'.ownsRow wc.heap.size 3 1 v' (k + 1) (intCells (ns.map fun n : Nat => (n : Int)) ++ intCells [(n : Int)])) (hw : W.grownBy w' v.ownBlock) : PlL wc i r (k + 1) (ns ++ [n]) v' w' := by
  have h2 := h.below hb
  have kg : Keep (fun b => some b = v.ownBlock) W w' := Keep.of_grown hw
  refine ⟨scPre_next h.pre hk hn hg, ?_, h2.bel.trans (kg.below h2.bel.size (fun b hb => (h2.own.lt b hb.symm).1))⟩
  rw [List.map_append]
  have e : intCells (ns.map (fun n : Nat => (n : Int)) ++ [n].map (fun n : Nat => (n : Int))) = intCells (ns.map fun n : Nat => (n : Int)) ++ intCells [(n : Int)] := by simp [intCells]
  rw [e]; exact ho
section
variable {B : Nat} {sa : Nat → Addr} {w0 : World} {kb c pb : Nat} {txt : ByteArray} {x : KpX} {M : KpM} {o : Nat → Nat} {w : World} {T : Nat}
theorem play_none (line : ByteArray) (h : KpIn B sa w0 kb c txt x M o w) (hls : line.size ≤ 100000) {ws : ByteArray} {r : List ByteArray} (hpc : piecesB 32 line = ws :: r) (hi : scIdx ws = none) :
    Calls Tryz.prog 39 #[.pointer (some ⟨pb, 0, none⟩), .string line] w (DoPost B sa w0 kb c txt (scPlay txt M line) o w) := by
  have HSp := Lib.hid (split_one line 32 w (by omega))
  have hlen : (piecesB 32 line).length = r.length + 1 := by rw [hpc]; rfl
  rw [hlen, hpc] at HSp
  have HCm := Lib.hid (fun (w1 W : World) (hW : Below w1.heap.size w1 W) => plC_any w1 W hW)
  have H := Lib.hid h
  unfold DoPost
  rw [scPlay_word hpc hi]
  have HLK : Hid (∀ (W : World) (mb : Nat) (b : Nat → Nat), W.heap[mb]? = some (mapO (cmd14 b)) → (Instr.lookup 165 (.map (some mb)) (.string ws) true).run Tryz.prog W = .ok (.tuple #[.agg #[.int .i64 0, .nilFunc], .bool false]) W) := (show ∀ (W : World) (mb : Nat) (b : Nat → Nat), W.heap[mb]? = some (mapO (cmd14 b)) → (Instr.lookup 165 (.map (some mb)) (.string ws) true).run Tryz.prog W = .ok (.tuple #[.agg #[.int .i64 0, .nilFunc], .bool false]) W from fun W mb b hm => by
    rw [mapS_look Tryz.underlying165 Tryz.underlying9 zeroCmd W mb _ hm (cmd14_nodup b) ws, cmd_none b hi]
    rfl)
  clear h hls hpc hi hlen
  go_enter Tryz.func39, Tryz.ntmps39
  go_wp2_with fail
  refine HSp.out.mono ?_
  rintro e w1 ⟨rfl, hw1⟩
  have x0 : w1.cell? ⟨w.heap.size, 0, none⟩ = some (.string ws) := by rw [hw1, cell_of_row _ _ 0 _ _ _ (get_alloc_new w _)]; rfl
  have HW1 := Lib.hid (show Below w.heap.size w w1 from by rw [hw1]; exact (Below.refl _ _).alloc (Nat.le_refl _) _)
  have l1 : w.heap.size < w1.heap.size := World.block_lt_of_cell? w1 ⟨w.heap.size, 0, none⟩ x0
  clear hw1 HSp
  go_upto_region 2 with fail
  go_cut [7, 8] (fun s7 s8 wx => ∃ cb b, s7 = .pointer (some ⟨cb, 0, none⟩) ∧ s8 = .bool false ∧ Hid (PlD w1 0 .nilFunc b cb wx))
  case first =>
    go_region_law (first | (go_simp; go_at_call 76; refine (HCm.out w1 _ ?_).mono ?_; (repeat (first | exact Below.refl _ _ | refine Below.drew ?_ | refine Below.alloc ?_ (Nat.le_refl _) _)); rintro e w2 ⟨mb, b, rfl, hC⟩; have x2 := hC.cell x0; have l2 : w.heap.size < w2.heap.size := World.block_lt_of_cell? w2 ⟨w.heap.size, 0, none⟩ x2; have lk := HLK.out w2 mb b hC.map; have lk2 := fun ob => HLK.out (w2.alloc ob) mb b (get_alloc_old ob hC.map); (try (have hc9 : w2.heap[w1.heap.size]? = some (.cells #[.int .i64 0, .nilFunc] 163) := hC.old _ _ (get_alloc_new (World.drew w1) _); have HC9 := Lib.hid hc9; obtain ⟨c90, c91, c9f⟩ := cmd_cells hc9; clear hc9)); have HC := Lib.hid hC; clear hC))
    all_goals
      go_wp2_with fail
      go_meet
      first
        | exact ⟨_, b, rfl, rfl, HC.out.after 0 .nilFunc⟩
        | exact ⟨_, b, rfl, rfl, HC.out.ahead 0 .nilFunc _ _ HC9.out rfl⟩
  case rest =>
    obtain ⟨cb, b, rfl, rfl, hD⟩ := hcut
    have hbw := HW1.out.trans (hD.out.bel.mono HW1.out.size)
    have HKw := Lib.hid (And.intro (H.out.below hbw) (Fr.below o hbw))
    obtain ⟨s0, _⟩ := HKw.out.1.b.se.all
    clear hD hbw x0 l1 HW1
    go_wp2_with fail
    go_quiet (fail)
    go_wp2_with fail
    go_ret2
    refine ⟨rfl, x, o, HKw.out.1.below ?_, HKw.out.2.trans (Fr.below o ?_)⟩ <;> exact below_drewN' _ (Below.refl _ _)
end
end Go.Proofs.YtikehilbmldadaaGreatDoor
namespace Go.Proofs.YtikehilbmldadaaGreatDoor
open Go.RowKit
set_option linter.unusedVariables false
theorem pieces_cell {w w1 : World} {ws : ByteArray} {r : List ByteArray} (h : w1.heap[w.heap.size]? = some (.cells ((ws :: r).map Value.string).toArray 9)) (k : Nat) (hk : k < r.length) : w1.cell? ⟨w.heap.size, 1 + k, none⟩ = some (.string r[k]) := by
  rw [cell_of_row _ _ _ _ _ _ h]
  simp [Nat.add_comm 1 k, hk]
section
variable {B : Nat} {sa : Nat → Addr} {w0 : World} {kb c pb : Nat} {txt : ByteArray} {x : KpX} {M : KpM} {o : Nat → Nat} {w : World} {T : Nat}
theorem play_some (line : ByteArray) (h : KpIn B sa w0 kb c txt x M o w) (hO : KpOk M T) (hN : NumB B w) (hp : w.heap[pb]? = some (plC kb c)) (ho : o pb = 0) (htx : txt.size ≤ 100000) (hls : line.size ≤ 100000) (hT : T + 2 * scTk line ≤ 400000)
    {ws : ByteArray} {r : List ByteArray} {i : Nat} (hpc : piecesB 32 line = ws :: r) (hi : scIdx ws = some i) :
    Calls Tryz.prog 39 #[.pointer (some ⟨pb, 0, none⟩), .string line] w (DoPost B sa w0 kb c txt (scPlay txt M line) o w) := by
  obtain ⟨i0, hi0, hz0, hz1, hz2⟩ := info_parts Tryz.infoInt
  have HSp := Lib.hid (split_one line 32 w (by omega))
  have hlen : (piecesB 32 line).length = r.length + 1 := by rw [hpc]; rfl
  have hszs := pieces_sizes 32 line
  rw [hlen, hpc] at HSp hszs
  have HRS := Lib.hid (show r.length ≤ 100000 ∧ ∀ k (hk : k < r.length), r[k].size ≤ 100000 from ⟨by omega, fun k hk => Nat.le_trans (hszs.2 _ (List.mem_cons_of_mem _ (List.getElem_mem hk))) hls⟩)
  have HCm := Lib.hid (fun (w1 W : World) (hW : Below w1.heap.size w1 W) => plC_any w1 W hW)
  have H := Lib.hid h
  have hi14 := scIdx_lt hi
  obtain ⟨ht3, ht4⟩ := scIdx_tick hi
  have HM := Lib.hid (fun (hm : r.length ≠ scMany i) => scPlay_many (txt := txt) (M := M) hpc hi hm)
  have HBad := Lib.hid (fun (hm : scNums i 0 r = none) => scPlay_bad (txt := txt) (M := M) hpc hi hm)
  have HGood := Lib.hid (fun ns (hm : r.length = scMany i) (hn : scNums i 0 r = some ns) => scPlay_good (txt := txt) (M := M) hpc hi hm hn)
  have HTk := Lib.hid (fun ns (hm : r.length = scMany i) (hn : scNums i 0 r = some ns) => (show T + 2 * (if i = 3 then ns.getD 0 0 else 0) ≤ 400000 from by have := scTk_line (scAsk_good hpc hi hm hn); omega))
  have HLK : Hid (∀ (W : World) (mb : Nat) (b : Nat → Nat), W.heap[mb]? = some (mapO (cmd14 b)) → (Instr.lookup 165 (.map (some mb)) (.string ws) true).run Tryz.prog W = .ok (.tuple #[.agg #[.int .i64 (scMany i), .func (.func (cmdFn i)) #[] (cmdCap b i)], .bool true]) W) := (show ∀ (W : World) (mb : Nat) (b : Nat → Nat), W.heap[mb]? = some (mapO (cmd14 b)) → (Instr.lookup 165 (.map (some mb)) (.string ws) true).run Tryz.prog W = .ok (.tuple #[.agg #[.int .i64 (scMany i), .func (.func (cmdFn i)) #[] (cmdCap b i)], .bool true]) W from fun W mb b hm => by
    rw [mapS_look Tryz.underlying165 Tryz.underlying9 zeroCmd W mb _ hm (cmd14_nodup b) ws, cmd_some b hi]
    rfl)
  have he := enters_cmd i hi14
  have HDo := Lib.hid (fun (wr : World) (hb : Below w.heap.size w wr) ns (hm : r.length = scMany i) (hn : scNums i 0 r = some ns) (hl : ns.length = scMany i) (b : Nat → Nat) (hbx : ∀ k, k < 7 → wr.heap[b k]? = some (.cells #[fnV (sayF.getD k 0)] 220)) (p : Nat) (nv : Value) (hown : wr.ownsRow p 3 1 nv ns.length (intCells (ns.map fun n : Nat => (n : Int)))) (hpw : w.heap.size ≤ p) =>
    (do_any (h.below hb) hO (hN.tab.low hb h.top) (below_get hb hp (lt_of_get hp)) ho htx hi14 hl (HTk.out ns hm hn) b hbx p nv hown (fun q hq => by
      have := (hown.lt q hq).1
      cases hz : o q with
      | zero => rfl
      | succ z => have := (h.b.low q (by omega)).2; omega)).mono (fun e w' hh => (show e = .returned (.tuple #[.string (scDo txt M i ns).2.1, errv sa (scDo txt M i ns).1]) ∧ ∃ x' o', KpIn B sa w0 kb c txt x' (scDo txt M i ns).2.2 o' w' ∧ Fr o o' w w' from by
        obtain ⟨h1, x', o', h2, h3⟩ := hh
        exact ⟨h1, x', o', h2, (Fr.below o hb).trans h3⟩)))
  have HNm := Lib.hid (fun (wr : World) (hb : Below w.heap.size w wr) (s : ByteArray) (hs : s.size ≤ 100000) => scNumber_any B s hs wr (hN.below hb h.top) (Nat.le_trans h.top hb.size))
  unfold DoPost
  obtain ⟨m, hm⟩ : ∃ m, m = scMany i := ⟨_, rfl⟩
  obtain ⟨F, hF⟩ : ∃ F, F = cmdFn i := ⟨_, rfl⟩
  obtain ⟨CP, hCP⟩ : ∃ CP : (Nat → Nat) → Array Value, CP = fun b => cmdCap b i := ⟨_, rfl⟩
  have hCPb : ∀ b, cmdCap b i = CP b := fun b => by rw [hCP]
  simp only [hCPb] at HLK HDo
  rw [← hm, ← hF] at HLK
  rw [← hF] at he HDo
  rw [← hm] at HM HGood HDo
  clear h hO hN hp ho htx hls hT hpc hi hlen hszs hi14 HTk hF hCP hCPb hm
  go_enter Tryz.func39, Tryz.ntmps39
  go_wp2_with fail
  refine HSp.out.mono ?_
  rintro e w1 ⟨rfl, hw1⟩
  have hg1 : w1.heap[w.heap.size]? = some (.cells ((ws :: r).map Value.string).toArray 9) := by rw [hw1]; exact get_alloc_new w _
  have x0 : w1.cell? ⟨w.heap.size, 0, none⟩ = some (.string ws) := by rw [cell_of_row _ _ 0 _ _ _ hg1]; rfl
  have HX := Lib.hid (fun k (hk : k < r.length) => pieces_cell hg1 k hk)
  have HW1 := Lib.hid (show Below w.heap.size w w1 from by rw [hw1]; exact (Below.refl _ _).alloc (Nat.le_refl _) _)
  have l1 : w.heap.size < w1.heap.size := World.block_lt_of_cell? w1 ⟨w.heap.size, 0, none⟩ x0
  clear hw1 HSp hg1
  go_upto_region 2 with fail
  go_cut [7, 8] (fun s7 s8 wx => ∃ cb b, s7 = .pointer (some ⟨cb, 0, none⟩) ∧ s8 = .bool true ∧ Hid (PlD w1 m (.func (.func F) #[] (CP b)) b cb wx))
  case first =>
    go_region_law (first | (go_simp; go_at_call 76; refine (HCm.out w1 _ ?_).mono ?_; (repeat (first | exact Below.refl _ _ | refine Below.drew ?_ | refine Below.alloc ?_ (Nat.le_refl _) _)); rintro e w2 ⟨mb, b, rfl, hC⟩; have x2 := hC.cell x0; have l2 : w.heap.size < w2.heap.size := World.block_lt_of_cell? w2 ⟨w.heap.size, 0, none⟩ x2; have lk := HLK.out w2 mb b hC.map; have lk2 := fun ob => HLK.out (w2.alloc ob) mb b (get_alloc_old ob hC.map); (try (have hc9 : w2.heap[w1.heap.size]? = some (.cells #[.int .i64 0, .nilFunc] 163) := hC.old _ _ (get_alloc_new (World.drew w1) _); have HC9 := Lib.hid hc9; obtain ⟨c90, c91, c9f⟩ := cmd_cells hc9; clear hc9)); have HC := Lib.hid hC; clear hC))
    all_goals
      go_wp2_with fail
      go_meet
      first
        | exact ⟨_, b, rfl, rfl, HC.out.after _ _⟩
        | exact ⟨_, b, rfl, rfl, HC.out.ahead _ _ _ _ HC9.out rfl⟩
  case rest =>
    obtain ⟨cb, b, rfl, rfl, hD⟩ := hcut
    have hbw := HW1.out.trans (hD.out.bel.mono HW1.out.size)
    have HKw := Lib.hid (And.intro (H.out.below hbw) (Fr.below o hbw))
    have HBW := Lib.hid hbw
    obtain ⟨c0, c1, cf⟩ := cmd_cells hD.out.c
    have y0 : wc.cell? ⟨w.heap.size, 0, none⟩ = some (.string ws) := by rw [hD.out.bel.cell (p := ⟨w.heap.size, 0, none⟩) l1]; exact x0
    have HY := Lib.hid (fun k (hk : k < r.length) => (show wc.cell? ⟨w.heap.size, 1 + k, none⟩ = some (.string r[k]) from by rw [hD.out.bel.cell (p := ⟨w.heap.size, 1 + k, none⟩) l1]; exact HX.out k hk))
    have lc : w.heap.size < wc.heap.size := World.block_lt_of_cell? wc ⟨w.heap.size, 0, none⟩ y0
    have HD := Lib.hid hD.out
    clear hD hbw x0 l1 HX HW1 HCm HLK
    obtain ⟨n, hn⟩ : ∃ n, n = r.length := ⟨_, rfl⟩
    have HN := Lib.hid hn
    rw [← hn] at HM HGood HDo ⊢
    have hnb : n ≤ 100000 := by have := HRS.out.1; omega
    clear hn
    by_cases hm : n = m
    · have HMM := Lib.hid hm
      have hmi : ((n : Int) != (m : Int)) = false := by rw [hm]; simp
      clear hm HM
      go_upto_region 5 with fail
      have HST0 : Hid (PlL wc i r 0 [] (.slice none 0 0) wc) := (show PlL wc i r 0 [] (.slice none 0 0) wc from ⟨scPre_zero i r, World.ownsRow_nil _ _ _ _, Below.refl _ _⟩)
      have hne : ¬ n = 0 ∨ n = 0 := by omega
      rcases hne with hn0 | hn0
      · go_wp2_with fail
        go_loopw [9, 38] (fun s9 s38 wr => ∃ (k : Nat) (a1 : Option Addr) (j1 : Nat) (ns : List Nat), k ≤ n ∧ s9 = .slice a1 k j1 ∧ s38 = .int .i64 k ∧ Hid (PlL wc i r k ns (.slice a1 k j1) wr)) (fun _ s38 _ => n - (intOf s38).toNat)
        case atStart => exact ⟨0, none, 0, [], Nat.zero_le _, rfl, rfl, HST0⟩
        case round =>
          obtain ⟨k, a1, j1, ns, hk, rfl, rfl, hst⟩ := hrel
          clear HST0
          by_cases hlt : k < n
          · skip
            have hkr : k < r.length := by have := HN.out; omega
            have hltI : (k : Int) < (n : Int) := by omega
            have z0 : wr.cell? ⟨w.heap.size, 0, none⟩ = some (.string ws) := by rw [hst.out.bel.cell (p := ⟨w.heap.size, 0, none⟩) lc]; exact y0
            have zk : wr.cell? ⟨w.heap.size, 1 + k, none⟩ = some (.string r[k]) := by rw [hst.out.bel.cell (p := ⟨w.heap.size, 1 + k, none⟩) lc]; exact HY.out k hkr
            have HBR := Lib.hid (HBW.out.trans (hst.out.bel.mono HBW.out.size))
            have HNk := Lib.hid (HNm.out wr HBR.out r[k] (HRS.out.2 k hkr))
            have HST := Lib.hid hst.out
            obtain ⟨rk, hrk⟩ : ∃ rk, rk = r[k] := ⟨_, rfl⟩
            have HRK := Lib.hid hrk
            rw [← hrk] at zk HNk
            clear hst hrk
            go_wp2_with fail
            refine HNk.out.mono ?_
            rintro e wz ⟨nn, rfl, hnn, bz⟩
            have HBZ := Lib.hid bz
            have z0 : wz.cell? ⟨w.heap.size, 0, none⟩ = some (.string ws) := by rw [bz.cell (p := ⟨w.heap.size, 0, none⟩) (World.block_lt_of_cell? wr ⟨w.heap.size, 0, none⟩ z0)]; exact z0
            have HKz := Lib.hid (And.intro (H.out.below (HBR.out.trans (bz.mono HBR.out.size))) (Fr.below o (HBR.out.trans (bz.mono HBR.out.size))))
            clear bz zk HNk
            cases hq : scNum rk with
            | none =>
              have HB1 := Lib.hid (HBad.out (scPre_bad HST.out.pre hkr (.inl (by rw [← HRK.out]; exact hq))))
              obtain ⟨s0, _⟩ := HKz.out.1.b.se.all
              clear hq hnn
              go_upto_region 11 with fail
              go_quiet (fail)
              go_wp2_with fail
              go_ret2
              rw [HB1.out]
              refine ⟨rfl, x, o, HKz.out.1.below ?_, HKz.out.2.trans (Fr.below o ?_)⟩ <;> exact below_drewN' _ (Below.refl _ _)
            | some q =>
              obtain rfl : nn = (q : Int) := hnn q hq
              have HQ := Lib.hid (show scNum r[k] = some q from by rw [← HRK.out]; exact hq)
              have HNx := Lib.hid (fun (hg : ¬ (k = 0 ∧ i ≠ 3 ∧ i ≠ 4 ∧ 9 < q)) (W w' : World) (v' : Value) hb ho hw => PlL.next (wz := wz) (W := W) (w' := w') (v' := v') (HST.out.below HBZ.out) hkr HQ.out hg hb ho hw)
              have HLay := Lib.hid (fun (x : Obj) => And.intro ((HST.out.below HBZ.out).own.alloc x) (show wc.heap.size ≤ (wz.alloc x).heap.size by rw [World.size_alloc]; have := (HST.out.below HBZ.out).bel.size; omega))
              have HBB := Lib.hid (fun (hg : k = 0 ∧ i ≠ 3 ∧ i ≠ 4 ∧ 9 < q) => HBad.out (scPre_bad HST.out.pre hkr (.inr ⟨q, HQ.out, hg⟩)))
              have h63 : Hid (k + 1 ≤ maxLen) := (show k + 1 ≤ maxLen from by unfold maxLen; omega)
              have hby : Hid ((k + 1) * 8 ≤ 140737488355328) := (show (k + 1) * 8 ≤ 140737488355328 from by omega)
              have hmes : Hid (n - (k + 1) < n - k) := (show n - (k + 1) < n - k from by omega)
              have hkn : Hid (k + 1 ≤ n) := hlt
              clear hq hnn
              by_cases hk0 : k = 0
              · have hkb : ((k : Int) == 0) = true := by rw [hk0]; rfl
                have HK0 := Lib.hid hk0
                clear hk0
                by_cases h3 : i = 3
                · have hb3 : (ws.toList == [116, 105, 99, 107]) = true := by rw [ht3, h3]; rfl
                  have hg := HNx.out (fun hh => hh.2.1 h3)
                  have HG := Lib.hid hg
                  clear h3 hg ht3 ht4
                  go_wp2_with (at_builtin; go_must (refine wpList_append_ownS rfl (.tmp 71) (.tmp 73) 48 rfl wc.heap.size 3 i0 _ 1 8 Tryz.underlying48 hi0 hz0 hz1 hz2 rfl (by decide) _ k _ rfl (HLay.out _).1 ⟨wz.heap.size, 0, none⟩ 1 1 (intCells [(q : Int)]) rfl rfl (new_cells _ (intCells [(q : Int)]) _) (oneCell_ints _) h63.out hby.out (HLay.out _).2 ?_; intro a2 k2 w4 ho hg; have nx := Lib.hid (HG.out _ w4 _ ((Below.refl _ _).alloc (Nat.le_refl _) _) ho hg); clear ho hg))
                  go_roundw
                  case rel => exact ⟨k + 1, a2, k2, ns ++ [q], hkn.out, rfl, by go_num, nx⟩
                  case measure => simp [intOf]; have := hmes.out; omega
                · have hb3 : (ws.toList == [116, 105, 99, 107]) = false := by rw [ht3]; exact decide_eq_false h3
                  by_cases h4 : i = 4
                  · have hb4 : (ws.toList == [99, 117, 116]) = true := by rw [ht4, h4]; rfl
                    have hg := HNx.out (fun hh => hh.2.2.1 h4)
                    have HG := Lib.hid hg
                    clear h3 h4 hg ht3 ht4
                    go_wp2_with (at_builtin; go_must (refine wpList_append_ownS rfl (.tmp 71) (.tmp 73) 48 rfl wc.heap.size 3 i0 _ 1 8 Tryz.underlying48 hi0 hz0 hz1 hz2 rfl (by decide) _ k _ rfl (HLay.out _).1 ⟨wz.heap.size, 0, none⟩ 1 1 (intCells [(q : Int)]) rfl rfl (new_cells _ (intCells [(q : Int)]) _) (oneCell_ints _) h63.out hby.out (HLay.out _).2 ?_; intro a2 k2 w4 ho hg; have nx := Lib.hid (HG.out _ w4 _ ((Below.refl _ _).alloc (Nat.le_refl _) _) ho hg); clear ho hg))
                    go_roundw
                    case rel => exact ⟨k + 1, a2, k2, ns ++ [q], hkn.out, rfl, by go_num, nx⟩
                    case measure => simp [intOf]; have := hmes.out; omega
                  · have hb4 : (ws.toList == [99, 117, 116]) = false := by rw [ht4]; exact decide_eq_false h4
                    by_cases h9 : 9 < q
                    · have HB1 := Lib.hid (HBB.out ⟨HK0.out, h3, h4, h9⟩)
                      have h9I : (9 : Int) < (q : Int) := by omega
                      obtain ⟨s0, _⟩ := HKz.out.1.b.se.all
                      clear h3 h4 h9 ht3 ht4
                      go_upto_region 11 with fail
                      go_quiet (fail)
                      go_wp2_with fail
                      go_ret2
                      rw [HB1.out]
                      refine ⟨rfl, x, o, HKz.out.1.below ?_, HKz.out.2.trans (Fr.below o ?_)⟩ <;> exact below_drewN' _ (Below.refl _ _)
                    · have hg := HNx.out (fun hh => h9 hh.2.2.2)
                      have HG := Lib.hid hg
                      have h9I : (q : Int) ≤ 9 := by omega
                      clear h3 h4 h9 hg ht3 ht4
                      go_wp2_with (at_builtin; go_must (refine wpList_append_ownS rfl (.tmp 71) (.tmp 73) 48 rfl wc.heap.size 3 i0 _ 1 8 Tryz.underlying48 hi0 hz0 hz1 hz2 rfl (by decide) _ k _ rfl (HLay.out _).1 ⟨wz.heap.size, 0, none⟩ 1 1 (intCells [(q : Int)]) rfl rfl (new_cells _ (intCells [(q : Int)]) _) (oneCell_ints _) h63.out hby.out (HLay.out _).2 ?_; intro a2 k2 w4 ho hg; have nx := Lib.hid (HG.out _ w4 _ ((Below.refl _ _).alloc (Nat.le_refl _) _) ho hg); clear ho hg))
                      go_roundw
                      case rel => exact ⟨k + 1, a2, k2, ns ++ [q], hkn.out, rfl, by go_num, nx⟩
                      case measure => simp [intOf]; have := hmes.out; omega
              · have hkb : ((k : Int) == 0) = false := beq_eq_false_iff_ne.2 (by omega)
                have hg := HNx.out (fun hh => hk0 hh.1)
                have HG := Lib.hid hg
                clear hk0 hg ht3 ht4
                go_wp2_with (at_builtin; go_must (refine wpList_append_ownS rfl (.tmp 71) (.tmp 73) 48 rfl wc.heap.size 3 i0 _ 1 8 Tryz.underlying48 hi0 hz0 hz1 hz2 rfl (by decide) _ k _ rfl (HLay.out _).1 ⟨wz.heap.size, 0, none⟩ 1 1 (intCells [(q : Int)]) rfl rfl (new_cells _ (intCells [(q : Int)]) _) (oneCell_ints _) h63.out hby.out (HLay.out _).2 ?_; intro a2 k2 w4 ho hg; have nx := Lib.hid (HG.out _ w4 _ ((Below.refl _ _).alloc (Nat.le_refl _) _) ho hg); clear ho hg))
                go_roundw
                case rel => exact ⟨k + 1, a2, k2, ns ++ [q], hkn.out, rfl, by go_num, nx⟩
                case measure => simp [intOf]; have := hmes.out; omega
          · skip
            have hpre : scNums i 0 r = some ns := scPre_end (by rw [← HN.out, show n = k by omega]; exact hst.out.pre)
            have hkm : k = m := by have := HMM.out; omega
            have HGo := Lib.hid (HGood.out ns HMM.out hpre)
            have hnl : ns.length = k := hst.out.pre.1
            have hown := hst.out.own
            rw [← hnl] at hown
            have hbr := HBW.out.trans (hst.out.bel.mono HBW.out.size)
            have HDR := Lib.hid (HDo.out wr hbr ns HMM.out hpre (by omega) b (fun q hq => below_get hst.out.bel (HD.out.box q hq) (lt_of_get (HD.out.box q hq))) wc.heap.size (.slice a1 ns.length j1) hown HBW.out.size)
            rw [hnl] at HDR
            have d1 : wr.cell? ⟨cb, 1, none⟩ = some (.func (.func F) #[] (CP b)) := by rw [hst.out.bel.cell (p := ⟨cb, 1, none⟩) (World.block_lt_of_cell? wc ⟨cb, 1, none⟩ c1)]; exact c1
            have hlI : ¬ (k : Int) < (n : Int) := by omega
            clear hst hown hnl hpre hkm hbr
            go_wp2_with fail
            refine HDR.out.mono ?_
            rintro e w5 ⟨rfl, z⟩
            have HZ := Lib.hid z
            clear z HDR
            go_wp2_with fail
            go_ret2
            rw [HGo.out]
            exact ⟨rfl, HZ.out⟩
      · go_wp2_with fail
        go_loopw [9, 38] (fun s9 s38 wr => ∃ (k : Nat) (a1 : Option Addr) (j1 : Nat) (ns : List Nat), k ≤ n ∧ s9 = .slice a1 k j1 ∧ s38 = .int .i64 k ∧ Hid (PlL wc i r k ns (.slice a1 k j1) wr)) (fun _ s38 _ => n - (intOf s38).toNat)
        case atStart => exact ⟨0, none, 0, [], Nat.zero_le _, rfl, rfl, HST0⟩
        case round =>
          obtain ⟨k, a1, j1, ns, hk, rfl, rfl, hst⟩ := hrel
          clear HST0
          by_cases hlt : k < n
          · omega
          · skip
            have hpre : scNums i 0 r = some ns := scPre_end (by rw [← HN.out, show n = k by omega]; exact hst.out.pre)
            have hkm : k = m := by have := HMM.out; omega
            have HGo := Lib.hid (HGood.out ns HMM.out hpre)
            have hnl : ns.length = k := hst.out.pre.1
            have hown := hst.out.own
            rw [← hnl] at hown
            have hbr := HBW.out.trans (hst.out.bel.mono HBW.out.size)
            have HDR := Lib.hid (HDo.out wr hbr ns HMM.out hpre (by omega) b (fun q hq => below_get hst.out.bel (HD.out.box q hq) (lt_of_get (HD.out.box q hq))) wc.heap.size (.slice a1 ns.length j1) hown HBW.out.size)
            rw [hnl] at HDR
            have d1 : wr.cell? ⟨cb, 1, none⟩ = some (.func (.func F) #[] (CP b)) := by rw [hst.out.bel.cell (p := ⟨cb, 1, none⟩) (World.block_lt_of_cell? wc ⟨cb, 1, none⟩ c1)]; exact c1
            have hlI : ¬ (k : Int) < (n : Int) := by omega
            clear hst hown hnl hpre hkm hbr
            go_wp2_with fail
            refine HDR.out.mono ?_
            rintro e w5 ⟨rfl, z⟩
            have HZ := Lib.hid z
            clear z HDR
            go_wp2_with fail
            go_ret2
            rw [HGo.out]
            exact ⟨rfl, HZ.out⟩
    · have HB1 := Lib.hid (HM.out hm)
      have hmi : ((n : Int) != (m : Int)) = true := bne_iff_ne.2 (by omega)
      obtain ⟨s0, _⟩ := HKw.out.1.b.se.all
      clear hm HM
      go_upto_region 4 with fail
      go_quiet (fail)
      go_wp2_with fail
      go_ret2
      rw [HB1.out]
      refine ⟨rfl, x, o, HKw.out.1.below ?_, HKw.out.2.trans (Fr.below o ?_)⟩ <;> exact below_drewN' _ (Below.refl _ _)
theorem play_any (line : ByteArray) (h : KpIn B sa w0 kb c txt x M o w) (hO : KpOk M T) (hN : NumB B w) (hp : w.heap[pb]? = some (plC kb c)) (ho : o pb = 0) (htx : txt.size ≤ 100000) (hls : line.size ≤ 100000) (hT : T + 2 * scTk line ≤ 400000) :
    Calls Tryz.prog 39 #[.pointer (some ⟨pb, 0, none⟩), .string line] w (DoPost B sa w0 kb c txt (scPlay txt M line) o w) := by
  obtain ⟨ws, r, hpc, -⟩ := pieces_head line
  cases hi : scIdx ws with
  | none => exact play_none line h hls hpc hi
  | some i => exact play_some line h hO hN hp ho htx hls hT hpc hi
end
end Go.Proofs.YtikehilbmldadaaGreatDoor
namespace Go.Proofs.YtikehilbmldadaaGreatDoor
open Go.RowKit
set_option linter.unusedVariables false
def wordA : W1 → ByteArray
  | .str s => s
  | .num n => ⟨(Lib.itoa n).toArray⟩
theorem wordA_B (x : W1) : (wordA x).data.toList = wordB x := by cases x <;> simp [wordA, wordB]
def mkLine (ws : List W1) : ByteArray := ⟨(interL 32 (ws.map wordB)).toArray⟩
theorem mkLine_data (ws : List W1) : (mkLine ws).data.toList = interL 32 (ws.map wordB) := by simp [mkLine]
theorem lineB_mk (ws : List W1) (h1 : 1 ≤ ws.length) (h5 : ws.length ≤ 5) : lineB ws = (mkLine ws).data.toList ++ [10] := by
  rw [mkLine_data]
  match ws, h1, h5 with
  | [a], _, _ => rw [line1]; simp [interL]
  | [a, b], _, _ => rw [line2]; simp [interL]
  | [a, b, c], _, _ => rw [line3]; simp [interL]
  | [a, b, c, d], _, _ => rw [line4]; simp [interL]
  | [a, b, c, d, e], _, _ => rw [line5]; simp [interL]
theorem map_data_inj : ∀ {a b : List ByteArray}, a.map (·.data.toList) = b.map (·.data.toList) → a = b
  | [], [], _ => rfl
  | [], _ :: _, h => by cases h
  | _ :: _, [], h => by cases h
  | x :: a, y :: b, h => by
    rw [List.map_cons, List.map_cons] at h
    obtain ⟨h1, h2⟩ := List.cons.inj h
    rw [bytes_ext h1, map_data_inj h2]
def Clean (b : UInt8) (ws : List W1) : Prop := ∀ x ∈ ws, b ∉ wordB x
theorem lineW_mk {ws : List W1} (h1 : ws ≠ []) (h : Clean 32 ws) : lineW (mkLine ws) = ws.map wordA := by
  refine map_data_inj ?_
  unfold lineW
  rw [pieces_cut, mkLine_data, cut_inter 32 _ (by simpa using h1) (fun p hp => by obtain ⟨x, hx, rfl⟩ := List.mem_map.1 hp; exact h x hx), List.map_map]
  exact List.map_congr_left (fun x _ => (wordA_B x).symm)
theorem inter_no (c b : UInt8) (hcb : b ≠ c) : ∀ ps : List (List UInt8), (∀ p ∈ ps, b ∉ p) → b ∉ interL c ps
  | [], _ => by simp [interL]
  | [p], h => h p (by simp)
  | p :: q :: ps, h => by
    have := inter_no c b hcb (q :: ps) (fun x hx => h x (List.mem_cons_of_mem _ hx))
    rw [inter_cons c p (by simp), List.mem_append, List.mem_cons]
    rintro (h1 | h1 | h1)
    · exact h p (by simp) h1
    · exact hcb h1
    · exact this h1
theorem mkLine_no {ws : List W1} (h : Clean 10 ws) : 10 ∉ (mkLine ws).data.toList := by
  rw [mkLine_data]
  exact inter_no 32 10 (by decide) _ (fun p hp => by obtain ⟨x, hx, rfl⟩ := List.mem_map.1 hp; exact h x hx)
theorem lineR_to {st : RdS} {s w0 : ByteArray} {ts : List ByteArray} {k : Nat} {fs : ByteArray} {n : List Int} (hl : lineW s = w0 :: ts) (hk : formOf w0 = some (k, fs)) (hlen : ts.length = fs.size) (hr : rightB st.stage k = true)
    (hu : wordsUp (lastE st.c.ents).points fs.data.toList ts fs.size = some (n, false)) : lineR st s = (0, ⟨takeC k (ts.getD 0 ByteArray.empty) n st.c, (k : Int)⟩) := by
  have hh : lineHd s = w0 := by unfold lineHd; rw [hl]; rfl
  have h1 : formOk w0 = true := by unfold formOk; rw [hk]; rfl
  have h2 : formStage w0 = k := by unfold formStage; rw [hk]; rfl
  have h3 : formWords w0 = fs := by unfold formWords; rw [hk]; rfl
  have hf : lineFits st s = true := by
    unfold lineFits
    rw [hh, h1, h2, h3, hr, hl, List.length_cons, Nat.add_sub_cancel, hlen]
    simp
  have hres : lineRes st s = some (n, false) := by
    unfold lineRes
    rw [hh, h3, hl]
    exact hu
  unfold lineR
  rw [if_pos hf, hres, hh, h2, hl]
  rfl
theorem up_step {pts : List ByteArray} {fs : List UInt8} {ts : List ByteArray} {k : Nat} {p q : List Int × Bool} (h : wordsUp pts fs ts k = some p) (h2 : wordStep pts (fs.getD k 0) (ts.getD k ByteArray.empty) p = some q) : wordsUp pts fs ts (k + 1) = some q := by
  show (match wordsUp pts fs ts k with | none => none | some p => wordStep pts (fs.getD k 0) (ts.getD k ByteArray.empty) p) = some q
  rw [h]; exact h2
theorem to_n {pts : List ByteArray} {t : ByteArray} {p : List Int × Bool} {k : Nat} (h : numV t = some k) : wordStep pts 110 t p = some (p.1 ++ [(k : Int)], p.2) := by
  unfold wordStep
  rw [if_pos rfl, h]
theorem to_p {pts : List ByteArray} {t : ByteArray} {p : List Int × Bool} {i : Int} (h : idxS pts t = i) (h0 : 0 ≤ i) (ht : t.size ≠ 0) : wordStep pts 112 t p = some (p.1 ++ [i], p.2) := by
  unfold wordStep
  rw [if_neg (by decide), if_neg ht, if_pos rfl, h, decide_eq_false (by omega), Bool.or_false]
theorem to_s {pts : List ByteArray} {t : ByteArray} {p : List Int × Bool} (ht : t.size ≠ 0) : wordStep pts 115 t p = some p := by
  unfold wordStep
  rw [if_neg (by decide), if_neg ht, if_neg (by decide)]
structure EntFine (E : EntV) : Prop where
  good : EntGood E
  name : isNameB E.name = true
  pts : ∀ s ∈ E.points, isNameB s = true
  dis : ∀ (i j : Nat) (hi : i < E.points.length) (hj : j < E.points.length), j < i → E.points[j] ≠ E.points[i]
  cmm : E.count = -1 → E.mn = 0 ∧ E.mx = 0
  cnt : E.count = -1 ∨ (0 ≤ E.count ∧ E.count < (E.points.length : Int))
theorem nameB_no {s : ByteArray} (h : isNameB s = true) (b : UInt8) (hb : b.toNat < 45) : b ∉ s.data.toList := by
  intro hm
  obtain ⟨i, hi, he⟩ := List.mem_iff_getElem.1 hm
  have hi' : i < s.size := by rw [Array.length_toList] at hi; exact hi
  by_cases hk : okN i s[i] = true
  · have : s[i] = b := by rw [← he]; rfl
    rw [this] at hk
    simp only [okN, decide_eq_true_eq] at hk
    omega
  · rw [isNameB_bad i hi' (by simpa using hk)] at h
    cases h
theorem nameB_pos {s : ByteArray} (h : isNameB s = true) : s.size ≠ 0 := by
  intro h0
  rw [isNameB_short (by omega)] at h
  cases h
theorem ptsE_zero {P : List ByteArray} (h : ptsE P = 0) : ∀ j, j < P.length → ptE P j = 0 := by
  have hall : ∀ n, ∀ j, j < n → j < P.length → ptE P j = 0 := by
    intro n
    induction n with
    | zero => intro j h1; omega
    | succ n ih =>
      intro j h1 h2
      by_cases hj : j < n
      · exact ih j hj h2
      · obtain rfl : j = n := by omega
        by_cases hz : ptE P j = 0
        · exact hz
        · rw [ptsE_hit h2 hz (fun i hi => ih i hi (by omega))] at h
          exact h
  exact fun j hj => hall (j + 1) j (by omega) hj
theorem fine_of {ah : List ByteArray} {E : EntV} (h : entErr ah E = 0) : EntFine E := by
  have hg := good_of h
  have h1 : isNameB E.name = true := by
    cases hh : isNameB E.name
    · rw [entErr_name hh] at h; cases h
    · rfl
  have h2 : hasStr ah E.name = false := by
    cases hh : hasStr ah E.name
    · rfl
    · rw [entErr_exist h1 hh] at h; cases h
  have h3 : boundB E = false := by
    cases hh : boundB E
    · rfl
    · rw [entErr_bound h1 h2 hh] at h; cases h
  have h4 : ptsE E.points = 0 := by
    by_cases hh : ptsE E.points = 0
    · exact hh
    · rw [entErr_pts h1 h2 h3 hh] at h; exact h
  rw [entErr_tail' h1 h2 h3 h4] at h
  have hr := tail_rules h
  have r0 := hr 0 (by decide)
  have r1 := hr 1 (by decide)
  simp only [ruleB] at r0 r1
  unfold strangP at r0
  rw [Bool.or_eq_false_iff] at r0
  have s2 := r0.1
  simp only [cntW, cmmW, decide_eq_false_iff_not] at s2 r1
  refine ⟨hg, h1, ptsE_names h4, fun i j hi hj hji he => ?_, fun hc => ⟨?_, ?_⟩, by omega⟩
  · have hz := ptsE_zero h4 i hi
    have hn : isNameB E.points[i] = true := ptsE_names h4 _ (List.getElem_mem hi)
    have : ptE E.points i = 6 := ptE_twice hi hn (hasStr_hit j (by rw [List.length_take]; omega) (by rw [List.getElem_take, he]))
    omega
  · by_cases hh : E.mn = 0
    · exact hh
    · exact absurd ⟨hc, .inl hh⟩ r1
  · by_cases hh : E.mx = 0
    · exact hh
    · exact absurd ⟨hc, .inr hh⟩ r1
theorem idx_name {E : EntV} (h : EntFine E) {k : Int} (h0 : 0 ≤ k) (hk : k < (E.points.length : Int)) : idxS E.points (nameAt E k) = k ∧ isNameB (nameAt E k) = true := by
  obtain ⟨n, rfl⟩ : ∃ n : Nat, k = n := ⟨k.toNat, (Int.toNat_of_nonneg h0).symm⟩
  have hn : n < E.points.length := by omega
  have e : nameAt E (n : Int) = E.points[n] := by
    unfold nameAt
    rw [Int.toNat_natCast, List.getD_eq_getElem?_getD, List.getElem?_eq_getElem hn]; rfl
  rw [e]
  refine ⟨sidxOf_hit hn rfl (fun j hj hjn hh => ?_), h.pts _ (List.getElem_mem hn)⟩
  refine h.dis n j hn hj hjn ?_
  rw [ByteArray.toList_eq, ByteArray.toList_eq] at hh
  exact bytes_ext hh
theorem num_clean (n : Int) (h : 0 ≤ n) (b : UInt8) (hb : b.toNat < 45) : b ∉ wordB (.num n) := by
  obtain ⟨m, rfl⟩ : ∃ m : Nat, n = m := ⟨n.toNat, (Int.toNat_of_nonneg h).symm⟩
  show b ∉ Lib.itoa (m : Int)
  rw [itoa_dig]
  intro hm
  have := decDigits_dig m b hm
  simp only [isDig, decide_eq_true_eq] at this
  omega
theorem num_back {n : Int} (h : 0 ≤ n) (h2 : n ≤ 1099511627776) : ∃ k : Nat, n = k ∧ numV (wordA (.num n)) = some k := by
  obtain ⟨m, rfl⟩ : ∃ m : Nat, n = m := ⟨n.toNat, (Int.toNat_of_nonneg h).symm⟩
  exact ⟨m, rfl, numV_itoa_back m (by omega)⟩
def WordFine : W1 → Prop
  | .str s => isNameB s = true ∨ s ∈ [winB, cycB, delB, entB, pntB, cntB, gapB, edgB, fstB, lstB]
  | .num n => 0 ≤ n
theorem fine_clean {ws : List W1} (h : ∀ x ∈ ws, WordFine x) (b : UInt8) (hb : b.toNat < 45) : Clean b ws := by
  intro x hx
  have := h x hx
  cases x with
  | num n => exact num_clean n this b hb
  | str s =>
    rcases this with h1 | h1
    · exact nameB_no h1 b hb
    · have hall : ∀ s ∈ [winB, cycB, delB, entB, pntB, cntB, gapB, edgB, fstB, lstB], ∀ c ∈ s.data.toList, 45 ≤ c.toNat := by decide
      intro hm
      have := hall s h1 b hm
      omega
def runL (st : RdS) : List ByteArray → Option RdS
  | [] => some st
  | s :: l => if (lineR st s).1 = 0 then runL (lineR st s).2 l else none
theorem runL_app (st : RdS) (a b : List ByteArray) {st' : RdS} (h : runL st a = some st') : runL st (a ++ b) = runL st' b := by
  induction a generalizing st with
  | nil => obtain rfl := Option.some.inj h; rfl
  | cons s a ih =>
    simp only [runL, List.cons_append] at h ⊢
    split at h
    · next hz => rw [if_pos hz]; exact ih _ h
    · cases h
theorem runL_one {st st' : RdS} {s : ByteArray} (h : lineR st s = (0, st')) : runL st [s] = some st' := by simp [runL, h]
theorem runL_cons {st st1 st' : RdS} {s : ByteArray} {l : List ByteArray} (h : lineR st s = (0, st1)) (h2 : runL st1 l = some st') : runL st (s :: l) = some st' := by simp [runL, h, h2]
end Go.Proofs.YtikehilbmldadaaGreatDoor
namespace Go.Proofs.YtikehilbmldadaaGreatDoor
open Go.RowKit
set_option linter.unusedVariables false
theorem entsF_zero {L : List EntV} (h : entsF L = (0, -1)) : ∀ j, j < L.length → entAt L j = 0 := by
  intro j hj
  unfold entsF at h
  split at h
  · next i hi =>
    have := (Prod.mk.inj h).2
    omega
  · next hn =>
    rw [List.find?_range_eq_none] at hn
    simpa using hn j hj
theorem confF_parts {C : ConfV} (h : confF C = (0, -1)) : boundC C = false ∧ ¬ C.opn < C.cycle ∧ ∀ j, j < C.ents.length → entAt C.ents j = 0 := by
  unfold confF at h
  split at h
  · cases h
  split at h
  · cases h
  next h1 h2 => exact ⟨by simpa using h1, h2, entsF_zero h⟩
end Go.Proofs.YtikehilbmldadaaGreatDoor
namespace Go.Proofs.YtikehilbmldadaaGreatDoor
open Go.RowKit
set_option linter.unusedVariables false
def cfg (C : ConfV) (L : List EntV) : ConfV := { C with ents := L }
def pntE (E : EntV) (done : List ByteArray) : EntV := ⟨E.name, E.tol, done, -1, 0, 0, [], [], [], []⟩
def gapE (E : EntV) (l : List GapV) : EntV := ⟨E.name, E.tol, E.points, E.count, E.mn, E.mx, l, [], [], []⟩
def edgE (E : EntV) (l : List (Int × Int)) : EntV := ⟨E.name, E.tol, E.points, E.count, E.mn, E.mx, E.gaps, l, [], []⟩
def fstE (E : EntV) (l : List Int) : EntV := ⟨E.name, E.tol, E.points, E.count, E.mn, E.mx, E.gaps, E.edges, l, []⟩
def lstE (E : EntV) (l : List Int) : EntV := ⟨E.name, E.tol, E.points, E.count, E.mn, E.mx, E.gaps, E.edges, E.first, l⟩
theorem take_cfg (C : ConfV) (pre : List EntV) (e : EntV) (k : Nat) (hk : 4 ≤ k) (name : ByteArray) (n : List Int) : takeC k name n (cfg C (pre ++ [e])) = cfg C (pre ++ [takeE k name n e]) := by
  unfold takeC
  rw [if_neg (by omega), if_neg (by omega), if_neg (by omega), if_neg (by omega)]
  show cfg C ((pre ++ [e]).dropLast ++ [takeE k name n (lastE (pre ++ [e]))]) = _
  rw [List.dropLast_concat, lastE_app]
theorem run_list {α : Type} (f : α → ByteArray) (ok : α → Prop) (lo hi : Int) (hlh : lo ≤ hi) (mk : List α → ConfV)
    (hstep : ∀ done x st, lo ≤ st → st ≤ hi → ok x → lineR ⟨mk done, st⟩ (f x) = (0, ⟨mk (done ++ [x]), hi⟩)) :
    ∀ (rest done : List α) (st : Int), lo ≤ st → st ≤ hi → (∀ x ∈ rest, ok x) → ∃ st', lo ≤ st' ∧ st' ≤ hi ∧ runL ⟨mk done, st⟩ (rest.map f) = some ⟨mk (done ++ rest), st'⟩
  | [], done, st, h1, h2, _ => ⟨st, h1, h2, by rw [List.append_nil]; rfl⟩
  | x :: rest, done, st, h1, h2, h => by
    obtain ⟨st', h3, h4, h5⟩ := run_list f ok lo hi hlh mk hstep rest (done ++ [x]) hi hlh (Int.le_refl _) (fun y hy => h y (List.mem_cons_of_mem _ hy))
    refine ⟨st', h3, h4, ?_⟩
    rw [List.map_cons, runL_cons (hstep done x st h1 h2 (h x (List.mem_cons_self ..))) h5, List.append_assoc]
    rfl
theorem right_ent (k : Nat) (hk : 4 ≤ k) (hk5 : k ≠ 5) {st : Int} (h1 : 3 ≤ st) (h2 : st ≤ k) : rightB st k = true := by
  unfold rightB
  rw [if_neg (by omega), if_neg (by omega), if_neg hk5]
  simp [h1, h2]
theorem right_cnt {st : Int} (h1 : 3 ≤ st) (h2 : st ≤ 4) : rightB st 5 = true := by
  unfold rightB
  rw [if_neg (by omega), if_neg (by omega), if_pos rfl]
  have : st = 3 ∨ st = 4 := by omega
  rcases this with rfl | rfl <;> rfl
theorem fine_pnt {E : EntV} (h : EntFine E) {k : Int} (h0 : 0 ≤ k) (hk : k < (E.points.length : Int)) : WordFine (.str (nameAt E k)) := .inl (idx_name h h0 hk).2
theorem key_fine {s : ByteArray} (h : s ∈ [winB, cycB, delB, entB, pntB, cntB, gapB, edgB, fstB, lstB]) : WordFine (.str s) := .inr h
theorem all1 {p : W1 → Prop} {a : W1} (ha : p a) : ∀ x ∈ [a], p x := fun x hx => by obtain rfl := List.mem_singleton.1 hx; exact ha
theorem all_cons {p : W1 → Prop} {a : W1} {l : List W1} (ha : p a) (h : ∀ x ∈ l, p x) : ∀ x ∈ a :: l, p x := fun x hx => by
  rcases List.mem_cons.1 hx with rfl | hx
  · exact ha
  · exact h x hx
def LineFine (ws : List W1) : Prop := (1 ≤ ws.length ∧ ws.length ≤ 5) ∧ ∀ x ∈ ws, WordFine x
theorem LineFine.w {ws : List W1} (h : LineFine ws) : lineW (mkLine ws) = ws.map wordA := lineW_mk (by intro e; have := h.1; rw [e] at this; simp at this) (fine_clean h.2 32 (by decide))
theorem LineFine.no {ws : List W1} (h : LineFine ws) : 10 ∉ (mkLine ws).data.toList := mkLine_no (fine_clean h.2 10 (by decide))
theorem LineFine.b {ws : List W1} (h : LineFine ws) : lineB ws = (mkLine ws).data.toList ++ [10] := lineB_mk ws h.1.1 h.1.2
section
variable {pts : List ByteArray} {a b c d : ByteArray} {i j x y : Int}
theorem go_n (hx : ∃ k : Nat, x = k ∧ numV a = some k) : wordsUp pts [110] [a] 1 = some ([x], false) := by
  obtain ⟨k, rfl, hk⟩ := hx
  exact up_step (p := ([], false)) rfl (to_n hk)
theorem go_nn (hx : ∃ k : Nat, x = k ∧ numV a = some k) (hy : ∃ k : Nat, y = k ∧ numV b = some k) : wordsUp pts [110, 110] [a, b] 2 = some ([x, y], false) := by
  obtain ⟨k, rfl, hk⟩ := hx
  obtain ⟨m, rfl, hm⟩ := hy
  exact up_step (p := ([(k : Int)], false)) (up_step (p := ([], false)) rfl (to_n hk)) (to_n hm)
theorem go_sn (ha : a.size ≠ 0) (hy : ∃ k : Nat, y = k ∧ numV b = some k) : wordsUp pts [115, 110] [a, b] 2 = some ([y], false) := by
  obtain ⟨m, rfl, hm⟩ := hy
  exact up_step (p := ([], false)) (up_step (p := ([], false)) rfl (to_s ha)) (to_n hm)
theorem go_s (ha : a.size ≠ 0) : wordsUp pts [115] [a] 1 = some ([], false) := up_step (p := ([], false)) rfl (to_s ha)
theorem go_p (ha : idxS pts a = i) (hi : 0 ≤ i) (hs : a.size ≠ 0) : wordsUp pts [112] [a] 1 = some ([i], false) := up_step (p := ([], false)) rfl (to_p ha hi hs)
theorem go_pp (ha : idxS pts a = i) (hi : 0 ≤ i) (hs : a.size ≠ 0) (hb : idxS pts b = j) (hj : 0 ≤ j) (ht : b.size ≠ 0) : wordsUp pts [112, 112] [a, b] 2 = some ([i, j], false) :=
  up_step (p := ([i], false)) (go_p' ha hi hs) (to_p hb hj ht)
where go_p' (ha : idxS pts a = i) (hi : 0 ≤ i) (hs : a.size ≠ 0) : wordsUp pts [112, 112] [a, b] 1 = some ([i], false) := up_step (p := ([], false)) rfl (to_p ha hi hs)
theorem go_pnn (ha : idxS pts a = i) (hi : 0 ≤ i) (hs : a.size ≠ 0) (hx : ∃ k : Nat, x = k ∧ numV b = some k) (hy : ∃ k : Nat, y = k ∧ numV c = some k) : wordsUp pts [112, 110, 110] [a, b, c] 3 = some ([i, x, y], false) := by
  obtain ⟨k, rfl, hk⟩ := hx
  obtain ⟨m, rfl, hm⟩ := hy
  exact up_step (p := ([i, (k : Int)], false)) (up_step (p := ([i], false)) (up_step (p := ([], false)) rfl (to_p ha hi hs)) (to_n hk)) (to_n hm)
theorem go_ppnn (ha : idxS pts a = i) (hi : 0 ≤ i) (hs : a.size ≠ 0) (hb : idxS pts b = j) (hj : 0 ≤ j) (ht : b.size ≠ 0) (hx : ∃ k : Nat, x = k ∧ numV c = some k) (hy : ∃ k : Nat, y = k ∧ numV d = some k) : wordsUp pts [112, 112, 110, 110] [a, b, c, d] 4 = some ([i, j, x, y], false) := by
  obtain ⟨k, rfl, hk⟩ := hx
  obtain ⟨m, rfl, hm⟩ := hy
  exact up_step (p := ([i, j, (k : Int)], false)) (up_step (p := ([i, j], false)) (up_step (p := ([i], false)) (up_step (p := ([], false)) rfl (to_p ha hi hs)) (to_p hb hj ht)) (to_n hk)) (to_n hm)
end
section
variable {E : EntV} (h : EntFine E)
include h
theorem lf_ent : LineFine [.str entB, .str E.name, .num E.tol] := ⟨by simp, all_cons (key_fine (by simp)) (all_cons (.inl h.name) (all1 h.good.tol.1))⟩
theorem lf_pnt {s : ByteArray} (hs : s ∈ E.points) : LineFine (pntL s) := ⟨by simp [pntL], all_cons (key_fine (by simp)) (all1 (.inl (h.pts s hs)))⟩
theorem lf_cnt (h0 : 0 ≤ E.count) : LineFine [.str cntB, .str (nameAt E E.count), .num E.mn, .num E.mx] := by
  have hc := h.cnt
  have hr := h.good.rng
  exact ⟨by simp, all_cons (key_fine (by simp)) (all_cons (fine_pnt h h0 (by omega)) (all_cons (show 0 ≤ E.mn by omega) (all1 (show 0 ≤ E.mx by omega))))⟩
theorem lf_gap {g : GapV} (hg : g ∈ E.gaps) : LineFine (gapLn E g) := by
  obtain ⟨a, b, c, d, _⟩ := h.good.gs g hg
  exact ⟨by simp [gapLn], all_cons (key_fine (by simp)) (all_cons (fine_pnt h a.1 a.2) (all_cons (fine_pnt h b.1 b.2) (all_cons c (all1 (show 0 ≤ g.mx by omega)))))⟩
theorem lf_edg {x : Int × Int} (hx : x ∈ E.edges) : LineFine (edgLn E x) := by
  obtain ⟨a, b⟩ := h.good.es x hx
  exact ⟨by simp [edgLn], all_cons (key_fine (by simp)) (all_cons (fine_pnt h a.1 a.2) (all1 (fine_pnt h b.1 b.2)))⟩
theorem lf_fst {k : Int} (hk : k ∈ E.first) : LineFine (fstLn E k) := by
  have a := h.good.fs k hk
  exact ⟨by simp [fstLn], all_cons (key_fine (by simp)) (all1 (fine_pnt h a.1 a.2))⟩
theorem lf_lst {k : Int} (hk : k ∈ E.last) : LineFine (lstLn E k) := by
  have a := h.good.ls k hk
  exact ⟨by simp [lstLn], all_cons (key_fine (by simp)) (all1 (fine_pnt h a.1 a.2))⟩
theorem step_pnt (C : ConfV) (pre : List EntV) (done : List ByteArray) {s : ByteArray} (hs : s ∈ E.points) {st : Int} (h1 : 3 ≤ st) (h2 : st ≤ 4) :
    lineR ⟨cfg C (pre ++ [pntE E done]), st⟩ (mkLine (pntL s)) = (0, ⟨cfg C (pre ++ [pntE E (done ++ [s])]), 4⟩) := by
  have hw := (lf_pnt h hs).w
  rw [lineR_to (w0 := pntB) (ts := [s]) (k := 4) (fs := ⟨#[115]⟩) (n := []) hw (by decide) rfl (right_ent 4 (by decide) (by decide) h1 h2) (go_s (nameB_pos (h.pts s hs)))]
  congr 2
  exact take_cfg C pre _ 4 (by decide) s []
theorem step_cnt (C : ConfV) (pre : List EntV) (h0 : 0 ≤ E.count) {st : Int} (h1 : 3 ≤ st) (h2 : st ≤ 4) :
    lineR ⟨cfg C (pre ++ [pntE E E.points]), st⟩ (mkLine [.str cntB, .str (nameAt E E.count), .num E.mn, .num E.mx]) = (0, ⟨cfg C (pre ++ [gapE E []]), 5⟩) := by
  have hw := (lf_cnt h h0).w
  have hc := h.cnt
  have hr := h.good.rng
  obtain ⟨hi, hn⟩ := idx_name h h0 (by omega)
  have hl : (lastE (pre ++ [pntE E E.points])).points = E.points := by rw [lastE_app]; rfl
  rw [lineR_to (w0 := cntB) (ts := [nameAt E E.count, wordA (.num E.mn), wordA (.num E.mx)]) (k := 5) (fs := ⟨#[112, 110, 110]⟩) (n := [E.count, E.mn, E.mx]) hw (by decide) rfl (right_cnt h1 h2)
    (go_pnn (by show idxS (lastE (pre ++ [pntE E E.points])).points _ = _; rw [hl]; exact hi) h0 (nameB_pos hn) (num_back (n := E.mn) (by omega) (by omega)) (num_back (n := E.mx) (by omega) (by omega)))]
  congr 2
  exact take_cfg C pre _ 5 (by decide) _ _
theorem step_gap (C : ConfV) (pre : List EntV) (done : List GapV) {g : GapV} (hg : g ∈ E.gaps) {st : Int} (h1 : 3 ≤ st) (h2 : st ≤ 6) :
    lineR ⟨cfg C (pre ++ [gapE E done]), st⟩ (mkLine (gapLn E g)) = (0, ⟨cfg C (pre ++ [gapE E (done ++ [g])]), 6⟩) := by
  have hw := (lf_gap h hg).w
  obtain ⟨a, b, c, d, e⟩ := h.good.gs g hg
  obtain ⟨hi, hn⟩ := idx_name h a.1 a.2
  obtain ⟨hj, hm⟩ := idx_name h b.1 b.2
  have hl : (lastE (pre ++ [gapE E done])).points = E.points := by rw [lastE_app]; rfl
  rw [lineR_to (w0 := gapB) (ts := [nameAt E g.fr, nameAt E g.dst, wordA (.num g.mn), wordA (.num g.mx)]) (k := 6) (fs := ⟨#[112, 112, 110, 110]⟩) (n := [g.fr, g.dst, g.mn, g.mx]) hw (by decide) rfl (right_ent 6 (by decide) (by decide) h1 h2)
    (go_ppnn (by show idxS (lastE (pre ++ [gapE E done])).points _ = _; rw [hl]; exact hi) a.1 (nameB_pos hn) (by show idxS (lastE (pre ++ [gapE E done])).points _ = _; rw [hl]; exact hj) b.1 (nameB_pos hm) (num_back (n := g.mn) (by omega) (by omega)) (num_back (n := g.mx) (by omega) (by omega)))]
  congr 2
  exact take_cfg C pre _ 6 (by decide) _ _
theorem step_edg (C : ConfV) (pre : List EntV) (done : List (Int × Int)) {x : Int × Int} (hx : x ∈ E.edges) {st : Int} (h1 : 3 ≤ st) (h2 : st ≤ 7) :
    lineR ⟨cfg C (pre ++ [edgE E done]), st⟩ (mkLine (edgLn E x)) = (0, ⟨cfg C (pre ++ [edgE E (done ++ [x])]), 7⟩) := by
  have hw := (lf_edg h hx).w
  obtain ⟨a, b⟩ := h.good.es x hx
  obtain ⟨hi, hn⟩ := idx_name h a.1 a.2
  obtain ⟨hj, hm⟩ := idx_name h b.1 b.2
  have hl : (lastE (pre ++ [edgE E done])).points = E.points := by rw [lastE_app]; rfl
  rw [lineR_to (w0 := edgB) (ts := [nameAt E x.1, nameAt E x.2]) (k := 7) (fs := ⟨#[112, 112]⟩) (n := [x.1, x.2]) hw (by decide) rfl (right_ent 7 (by decide) (by decide) h1 h2)
    (go_pp (by show idxS (lastE (pre ++ [edgE E done])).points _ = _; rw [hl]; exact hi) a.1 (nameB_pos hn) (by show idxS (lastE (pre ++ [edgE E done])).points _ = _; rw [hl]; exact hj) b.1 (nameB_pos hm))]
  congr 2
  exact take_cfg C pre _ 7 (by decide) _ _
theorem step_fst (C : ConfV) (pre : List EntV) (done : List Int) {x : Int} (hx : x ∈ E.first) {st : Int} (h1 : 3 ≤ st) (h2 : st ≤ 8) :
    lineR ⟨cfg C (pre ++ [fstE E done]), st⟩ (mkLine (fstLn E x)) = (0, ⟨cfg C (pre ++ [fstE E (done ++ [x])]), 8⟩) := by
  have hw := (lf_fst h hx).w
  have a := h.good.fs x hx
  obtain ⟨hi, hn⟩ := idx_name h a.1 a.2
  have hl : (lastE (pre ++ [fstE E done])).points = E.points := by rw [lastE_app]; rfl
  rw [lineR_to (w0 := fstB) (ts := [nameAt E x]) (k := 8) (fs := ⟨#[112]⟩) (n := [x]) hw (by decide) rfl (right_ent 8 (by decide) (by decide) h1 h2)
    (go_p (by show idxS (lastE (pre ++ [fstE E done])).points _ = _; rw [hl]; exact hi) a.1 (nameB_pos hn))]
  congr 2
  exact take_cfg C pre _ 8 (by decide) _ _
theorem step_lst (C : ConfV) (pre : List EntV) (done : List Int) {x : Int} (hx : x ∈ E.last) {st : Int} (h1 : 3 ≤ st) (h2 : st ≤ 9) :
    lineR ⟨cfg C (pre ++ [lstE E done]), st⟩ (mkLine (lstLn E x)) = (0, ⟨cfg C (pre ++ [lstE E (done ++ [x])]), 9⟩) := by
  have hw := (lf_lst h hx).w
  have a := h.good.ls x hx
  obtain ⟨hi, hn⟩ := idx_name h a.1 a.2
  have hl : (lastE (pre ++ [lstE E done])).points = E.points := by rw [lastE_app]; rfl
  rw [lineR_to (w0 := lstB) (ts := [nameAt E x]) (k := 9) (fs := ⟨#[112]⟩) (n := [x]) hw (by decide) rfl (right_ent 9 (by decide) (by decide) h1 h2)
    (go_p (by show idxS (lastE (pre ++ [lstE E done])).points _ = _; rw [hl]; exact hi) a.1 (nameB_pos hn))]
  congr 2
  exact take_cfg C pre _ 9 (by decide) _ _
theorem runs_pnt (C : ConfV) (pre : List EntV) {st : Int} (h1 : 3 ≤ st) (h2 : st ≤ 4) : ∃ st', 3 ≤ st' ∧ st' ≤ 4 ∧ runL ⟨cfg C (pre ++ [pntE E []]), st⟩ (E.points.map (fun s => mkLine (pntL s))) = some ⟨cfg C (pre ++ [pntE E E.points]), st'⟩ := by
  have hs := @step_pnt E h C pre
  exact run_list (fun s => mkLine (pntL s)) (· ∈ E.points) 3 4 (by decide) (fun done => cfg C (pre ++ [pntE E done])) (fun done x st h1 h2 hx => hs done hx h1 h2) E.points [] st h1 h2 (fun x hx => hx)
theorem runs_gap (C : ConfV) (pre : List EntV) {st : Int} (h1 : 3 ≤ st) (h2 : st ≤ 6) : ∃ st', 3 ≤ st' ∧ st' ≤ 6 ∧ runL ⟨cfg C (pre ++ [gapE E []]), st⟩ (E.gaps.map (fun g => mkLine (gapLn E g))) = some ⟨cfg C (pre ++ [gapE E E.gaps]), st'⟩ := by
  have hs := @step_gap E h C pre
  exact run_list (fun g => mkLine (gapLn E g)) (· ∈ E.gaps) 3 6 (by decide) (fun done => cfg C (pre ++ [gapE E done])) (fun done x st h1 h2 hx => hs done hx h1 h2) E.gaps [] st h1 h2 (fun x hx => hx)
theorem runs_edg (C : ConfV) (pre : List EntV) {st : Int} (h1 : 3 ≤ st) (h2 : st ≤ 7) : ∃ st', 3 ≤ st' ∧ st' ≤ 7 ∧ runL ⟨cfg C (pre ++ [edgE E []]), st⟩ (E.edges.map (fun g => mkLine (edgLn E g))) = some ⟨cfg C (pre ++ [edgE E E.edges]), st'⟩ := by
  have hs := @step_edg E h C pre
  exact run_list (fun g => mkLine (edgLn E g)) (· ∈ E.edges) 3 7 (by decide) (fun done => cfg C (pre ++ [edgE E done])) (fun done x st h1 h2 hx => hs done hx h1 h2) E.edges [] st h1 h2 (fun x hx => hx)
theorem runs_fst (C : ConfV) (pre : List EntV) {st : Int} (h1 : 3 ≤ st) (h2 : st ≤ 8) : ∃ st', 3 ≤ st' ∧ st' ≤ 8 ∧ runL ⟨cfg C (pre ++ [fstE E []]), st⟩ (E.first.map (fun g => mkLine (fstLn E g))) = some ⟨cfg C (pre ++ [fstE E E.first]), st'⟩ := by
  have hs := @step_fst E h C pre
  exact run_list (fun g => mkLine (fstLn E g)) (· ∈ E.first) 3 8 (by decide) (fun done => cfg C (pre ++ [fstE E done])) (fun done x st h1 h2 hx => hs done hx h1 h2) E.first [] st h1 h2 (fun x hx => hx)
theorem runs_lst (C : ConfV) (pre : List EntV) {st : Int} (h1 : 3 ≤ st) (h2 : st ≤ 9) : ∃ st', 3 ≤ st' ∧ st' ≤ 9 ∧ runL ⟨cfg C (pre ++ [lstE E []]), st⟩ (E.last.map (fun g => mkLine (lstLn E g))) = some ⟨cfg C (pre ++ [lstE E E.last]), st'⟩ := by
  have hs := @step_lst E h C pre
  exact run_list (fun g => mkLine (lstLn E g)) (· ∈ E.last) 3 9 (by decide) (fun done => cfg C (pre ++ [lstE E done])) (fun done x st h1 h2 hx => hs done hx h1 h2) E.last [] st h1 h2 (fun x hx => hx)
theorem run_ent (C : ConfV) (pre : List EntV) {st : Int} (h1 : 2 ≤ st) : ∃ st', 2 ≤ st' ∧ runL ⟨cfg C pre, st⟩ ((entLn E).map mkLine) = some ⟨cfg C (pre ++ [E]), st'⟩ := by
  have e0 : lineR ⟨cfg C pre, st⟩ (mkLine [.str entB, .str E.name, .num E.tol]) = (0, ⟨cfg C (pre ++ [pntE E []]), 3⟩) := by
    have hw := (lf_ent h).w
    have ht := h.good.tol
    rw [lineR_to (w0 := entB) (ts := [E.name, wordA (.num E.tol)]) (k := 3) (fs := ⟨#[115, 110]⟩) (n := [E.tol]) hw (by decide) rfl (by unfold rightB; simp; exact h1)
      (go_sn (nameB_pos h.name) (num_back (n := E.tol) (by omega) (by omega)))]
    rfl
  obtain ⟨s1, a1, b1, r1⟩ := runs_pnt h C pre (st := 3) (by decide) (by decide)
  have r2 : ∃ s2, 3 ≤ s2 ∧ s2 ≤ 5 ∧ runL ⟨cfg C (pre ++ [pntE E E.points]), s1⟩ ((cntLn E).map mkLine) = some ⟨cfg C (pre ++ [gapE E []]), s2⟩ := by
    by_cases h0 : 0 ≤ E.count
    · refine ⟨5, by decide, by decide, ?_⟩
      unfold cntLn
      rw [if_pos h0, List.map_singleton]
      exact runL_one (step_cnt h C pre h0 a1 b1)
    · refine ⟨s1, a1, by omega, ?_⟩
      unfold cntLn
      rw [if_neg h0]
      have hc : E.count = -1 := by have := h.cnt; omega
      obtain ⟨m1, m2⟩ := h.cmm hc
      show some _ = some _
      congr 5
      unfold pntE
      cases E
      simp only at hc m1 m2
      simp [hc, m1, m2, gapE]
  obtain ⟨s2, a2, b2, r2⟩ := r2
  obtain ⟨s3, a3, b3, r3⟩ := runs_gap h C pre a2 (by omega)
  obtain ⟨s4, a4, b4, r4⟩ := runs_edg h C pre a3 (by omega)
  obtain ⟨s5, a5, b5, r5⟩ := runs_fst h C pre a4 (by omega)
  obtain ⟨s6, a6, b6, r6⟩ := runs_lst h C pre a5 (by omega)
  refine ⟨s6, by omega, ?_⟩
  unfold entLn
  rw [List.map_cons, List.map_append, List.map_append, List.map_append, List.map_append, List.map_append, List.map_map, List.map_map, List.map_map, List.map_map, List.map_map]
  refine runL_cons e0 ?_
  have r4 : runL ⟨cfg C (pre ++ [gapE E E.gaps]), s3⟩ (E.edges.map (fun g => mkLine (edgLn E g))) = some ⟨cfg C (pre ++ [edgE E E.edges]), s4⟩ := r4
  have r5 : runL ⟨cfg C (pre ++ [edgE E E.edges]), s4⟩ (E.first.map (fun g => mkLine (fstLn E g))) = some ⟨cfg C (pre ++ [fstE E E.first]), s5⟩ := r5
  have r6 : runL ⟨cfg C (pre ++ [fstE E E.first]), s5⟩ (E.last.map (fun g => mkLine (lstLn E g))) = some ⟨cfg C (pre ++ [lstE E E.last]), s6⟩ := r6
  rw [List.append_assoc, List.append_assoc, List.append_assoc, List.append_assoc]
  exact (runL_app _ _ _ r1).trans ((runL_app _ _ _ r2).trans ((runL_app _ _ _ r3).trans ((runL_app _ _ _ r4).trans ((runL_app _ _ _ r5).trans r6))))
end
theorem run_ents (C : ConfV) : ∀ (L pre : List EntV) {st : Int}, 2 ≤ st → (∀ E ∈ L, EntFine E) → ∃ st', 2 ≤ st' ∧ runL ⟨cfg C pre, st⟩ ((L.flatMap entLn).map mkLine) = some ⟨cfg C (pre ++ L), st'⟩
  | [], pre, st, h, _ => ⟨st, h, by rw [List.append_nil]; rfl⟩
  | E :: L, pre, st, h, hf => by
    obtain ⟨s1, h1, r1⟩ := run_ent (hf E (List.mem_cons_self ..)) C pre h
    obtain ⟨s2, h2, r2⟩ := run_ents C L (pre ++ [E]) h1 (fun x hx => hf x (List.mem_cons_of_mem _ hx))
    refine ⟨s2, h2, ?_⟩
    rw [List.flatMap_cons, List.map_append, runL_app _ _ _ r1, r2, List.append_assoc]
    rfl
def txtLs (C : ConfV) : List (List W1) := headL C ++ C.ents.flatMap entLn
theorem ents_fine {C : ConfV} (h : confF C = (0, -1)) : ∀ E ∈ C.ents, EntFine E := by
  intro E hE
  obtain ⟨i, hi, rfl⟩ := List.mem_iff_getElem.1 hE
  have := (confF_parts h).2.2 i hi
  rw [entAt_at hi] at this
  exact fine_of this
theorem lf_head {C : ConfV} (h : confF C = (0, -1)) : ∀ ws ∈ headL C, LineFine ws := by
  have hb := (confF_parts h).1
  unfold boundC at hb
  rw [decide_eq_false_iff_not] at hb
  intro ws hws
  simp only [headL, List.mem_cons, List.not_mem_nil, or_false] at hws
  rcases hws with rfl | rfl | rfl
  · exact ⟨by simp, all_cons (key_fine (by simp)) (all_cons (show 0 ≤ C.closed by omega) (all1 (show 0 ≤ C.opn by omega)))⟩
  · exact ⟨by simp, all_cons (key_fine (by simp)) (all1 (show 0 ≤ C.cycle by omega))⟩
  · exact ⟨by simp, all_cons (key_fine (by simp)) (all1 (show 0 ≤ C.delay by omega))⟩
theorem lf_entLn {E : EntV} (h : EntFine E) : ∀ ws ∈ entLn E, LineFine ws := by
  intro ws hws
  unfold entLn at hws
  rcases List.mem_cons.1 hws with rfl | hws
  · exact lf_ent h
  simp only [List.mem_append, List.mem_map] at hws
  rcases hws with ((((⟨x, hx, rfl⟩ | hws) | ⟨x, hx, rfl⟩) | ⟨x, hx, rfl⟩) | ⟨x, hx, rfl⟩) | ⟨x, hx, rfl⟩
  · exact lf_pnt h hx
  · unfold cntLn at hws
    split at hws
    · next h0 => obtain rfl := List.mem_singleton.1 hws; exact lf_cnt h h0
    · cases hws
  · exact lf_gap h hx
  · exact lf_edg h hx
  · exact lf_fst h hx
  · exact lf_lst h hx
theorem lf_all {C : ConfV} (h : confF C = (0, -1)) : ∀ ws ∈ txtLs C, LineFine ws := by
  intro ws hws
  rcases List.mem_append.1 hws with hws | hws
  · exact lf_head h ws hws
  · obtain ⟨E, hE, hw⟩ := List.mem_flatMap.1 hws
    exact lf_entLn (ents_fine h E hE) ws hw
theorem run_head {C : ConfV} (h : confF C = (0, -1)) : runL RdS.start ((headL C).map mkLine) = some ⟨cfg C [], 2⟩ := by
  have hb := (confF_parts h).1
  unfold boundC at hb
  rw [decide_eq_false_iff_not] at hb
  have hf := lf_head h
  have w1 := (hf [.str winB, .num C.closed, .num C.opn] (by simp [headL])).w
  have w2 := (hf [.str cycB, .num C.cycle] (by simp [headL])).w
  have w3 := (hf [.str delB, .num C.delay] (by simp [headL])).w
  have e1 : lineR RdS.start (mkLine [.str winB, .num C.closed, .num C.opn]) = (0, ⟨⟨C.closed, C.opn, 0, 0, []⟩, 0⟩) :=
    lineR_to (w0 := winB) (ts := [wordA (.num C.closed), wordA (.num C.opn)]) (k := 0) (fs := ⟨#[110, 110]⟩) (n := [C.closed, C.opn]) w1 (by decide) rfl (by decide) (go_nn (num_back (n := C.closed) (by omega) (by omega)) (num_back (n := C.opn) (by omega) (by omega)))
  have e2 : lineR ⟨⟨C.closed, C.opn, 0, 0, []⟩, 0⟩ (mkLine [.str cycB, .num C.cycle]) = (0, ⟨⟨C.closed, C.opn, C.cycle, 0, []⟩, 1⟩) :=
    lineR_to (w0 := cycB) (ts := [wordA (.num C.cycle)]) (k := 1) (fs := ⟨#[110]⟩) (n := [C.cycle]) w2 (by decide) rfl (by show rightB 0 1 = true; decide) (go_n (num_back (n := C.cycle) (by omega) (by omega)))
  have e3 : lineR ⟨⟨C.closed, C.opn, C.cycle, 0, []⟩, 1⟩ (mkLine [.str delB, .num C.delay]) = (0, ⟨⟨C.closed, C.opn, C.cycle, C.delay, []⟩, 2⟩) :=
    lineR_to (w0 := delB) (ts := [wordA (.num C.delay)]) (k := 2) (fs := ⟨#[110]⟩) (n := [C.delay]) w3 (by decide) rfl (by show rightB 1 2 = true; decide) (go_n (num_back (n := C.delay) (by omega) (by omega)))
  exact runL_cons e1 (runL_cons e2 (runL_one e3))
theorem runL_up (ls : List ByteArray) : ∀ (k : Nat) {st : RdS}, k ≤ ls.length → runL (linesUp ls k) (ls.drop k) = some st → (∀ j, k ≤ j → j < ls.length → lineAt ls j = 0) ∧ linesUp ls ls.length = st
  | k, st, hk, h => by
    by_cases he : k = ls.length
    · subst he
      rw [List.drop_length] at h
      exact ⟨fun j h1 h2 => by omega, Option.some.inj h⟩
    · have hlt : k < ls.length := by omega
      have hd : ls.getD k ByteArray.empty = ls[k] := by rw [List.getD_eq_getElem?_getD, List.getElem?_eq_getElem hlt]; rfl
      rw [List.drop_eq_getElem_cons hlt] at h
      simp only [runL] at h
      split at h
      · next hz =>
        have hn : linesUp ls (k + 1) = (lineR (linesUp ls k) ls[k]).2 := by
          show (lineR (linesUp ls k) (ls.getD k ByteArray.empty)).2 = _
          rw [hd]
        rw [← hn] at h
        obtain ⟨h1, h2⟩ := runL_up ls (k + 1) (by omega) h
        refine ⟨fun j hj hl => ?_, h2⟩
        by_cases hjk : j = k
        · subst hjk
          unfold lineAt
          rw [hd]; exact hz
        · exact h1 j (by omega) hl
      · cases h
  termination_by k => ls.length - k
theorem textB_lines (C : ConfV) : textB C = linesB (txtLs C) := by
  unfold textB headB txtLs
  rw [linesB_app]
  show linesB _ ++ _ = linesB _ ++ _
  congr 1
  unfold linesB
  rw [List.flatMap_assoc]
theorem text_lines {C : ConfV} (h : confF C = (0, -1)) : textLines ⟨(textB C).toArray⟩ = (txtLs C).map mkLine := by
  have hf := lf_all h
  have hne : (txtLs C).map mkLine ≠ [] := by simp [txtLs, headL]
  have e1 : textB C = ((txtLs C).map mkLine).flatMap (fun s => s.data.toList ++ [10]) := by
    rw [textB_lines, List.flatMap_map]
    unfold linesB
    have : ∀ L : List (List W1), (∀ ws ∈ L, LineFine ws) → L.flatMap lineB = L.flatMap (fun a => (mkLine a).data.toList ++ [10]) := by
      intro L
      induction L with
      | nil => intro _; rfl
      | cons ws L ih =>
        intro hL
        rw [List.flatMap_cons, List.flatMap_cons, ih (fun x hx => hL x (List.mem_cons_of_mem _ hx)), (hL ws (List.mem_cons_self ..)).b]
    exact this _ hf
  have e2 := flat_inter 10 (((txtLs C).map mkLine).map (·.data.toList)) (by simpa using hne)
  rw [List.flatMap_map] at e2
  rw [← e1] at e2
  have hsz : (⟨(textB C).toArray⟩ : ByteArray).size = (textB C).length := by simp [ByteArray.size]
  have hlen : 1 ≤ (textB C).length := by rw [e2, List.length_append]; simp
  have hcut : textCut ⟨(textB C).toArray⟩ = ⟨(interL 10 (((txtLs C).map mkLine).map (·.data.toList))).toArray⟩ := by
    unfold textCut
    rw [if_pos (by show (textB C).toArray.toList.getLast? = _; rw [List.toList_toArray, e2]; simp)]
    refine bytes_ext ?_
    rw [ByteArray.data_extract, Array.toList_extract, hsz]
    show List.extract (textB C).toArray.toList 0 _ = (interL 10 _).toArray.toList
    rw [List.toList_toArray, List.toList_toArray, List.extract_eq_take_drop, List.drop_zero]
    conv => lhs; rw [e2]
    rw [List.length_append, List.length_singleton]
    simp
  unfold textLines
  rw [if_neg (by rw [hsz]; omega), hcut]
  refine map_data_inj ?_
  rw [pieces_cut]
  show cutL 10 (interL 10 _).toArray.toList = _
  rw [List.toList_toArray]
  exact cut_inter 10 _ (by simpa using hne) (fun p hp => by
    obtain ⟨s, hs, rfl⟩ := List.mem_map.1 hp
    obtain ⟨ws, hws, rfl⟩ := List.mem_map.1 hs
    exact (hf ws hws).no)
theorem back_law {C : ConfV} (h : confF C = (0, -1)) (h8 : ¬ 8000 < (textB C).length) : readF ⟨(textB C).toArray⟩ = (C, (0, -1)) := by
  have hsz : (⟨(textB C).toArray⟩ : ByteArray).size = (textB C).length := by simp [ByteArray.size]
  obtain ⟨st', h2, hr⟩ := run_ents C C.ents [] (st := 2) (by decide) (ents_fine h)
  have hrun : runL RdS.start ((txtLs C).map mkLine) = some ⟨C, st'⟩ := by
    unfold txtLs
    rw [List.map_append, runL_app _ _ _ (run_head h), hr]
    rfl
  have hup := runL_up ((txtLs C).map mkLine) 0 (Nat.zero_le _) (st := ⟨C, st'⟩) (by rw [List.drop_zero]; exact hrun)
  unfold readF
  rw [text_lines h, hsz, if_neg h8, linesF_miss (fun j hj => hup.1 j (Nat.zero_le _) hj), if_neg (by decide), hup.2, if_neg (by show ¬ st' < 2; omega), h, if_neg (by decide)]
end Go.Proofs.YtikehilbmldadaaGreatDoor
