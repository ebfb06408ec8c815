/- The document's cells, over the same model. -/
import Derived.Test.YtkhcepdeppmofaaDoorCells3
import Derived.BigRegion
import Derived.Laws.Concat
namespace Go.Proofs.YtkhcepdeppmofaaDoor
open Go.RowKit
set_option linter.unusedVariables false

def rcellC (m : CM) (left : Int) (cuts : Bool) : Obj := .cells #[.string (strOf m.bs), .bool m.off, .int .i64 left, .bool cuts, .int .i64 m.wr] 90
structure RCellsAt (w : World) (r : Nat) (m : CM) (left : Int) (cuts : Bool) : Prop where
  box : w.heap[r]? = some (rcellC m left cuts)
  rel : (cuts = false ∧ m.cut = -1) ∨ (cuts = true ∧ m.cut = left ∧ 0 ≤ left)
  len : m.bs.length ≤ 4096
theorem rcells_cells {w : World} {r : Nat} {m : CM} {left : Int} {cuts : Bool} (h : RCellsAt w r m left cuts) :
    w.cell? ⟨r, 0, none⟩ = some (.string (strOf m.bs)) ∧ w.cell? ⟨r, 1, none⟩ = some (.bool m.off) ∧ w.cell? ⟨r, 2, none⟩ = some (.int .i64 left) ∧ w.cell? ⟨r, 3, none⟩ = some (.bool cuts) ∧ w.cell? ⟨r, 4, none⟩ = some (.int .i64 m.wr) ∧ ∀ o, w.frozen? ⟨r, o, none⟩ = false := by
  have h := h.box
  unfold rcellC at h
  simp [World.cell?, World.frozen?, h]
theorem RCellsAt.keep {S : Nat → Prop} {w w' : World} {r : Nat} {m : CM} {left : Int} {cuts : Bool} (h : RCellsAt w r m left cuts) (k : Keep S w w') (hS : ¬ S r) : RCellsAt w' r m left cuts := ⟨k.get h.box hS, h.rel, h.len⟩

def RC (w : World) (r : Nat) (m : CM) : Prop := ∃ left cuts, RCellsAt w r m left cuts
set_option maxHeartbeats 1000000 in
theorem rError_any (r : Nat) (m : CM) (left : Int) (cuts : Bool) (at_ n : Int) (w : World) (h : RCellsAt w r m left cuts) :
    Calls Tryd.prog 75 #[.pointer (some ⟨r, 0, none⟩), .int .i64 at_, .int .i64 n] w fun e w' => e = .returned (.int .i64 (lookE m.off m.bs.length at_ n : Nat)) ∧ w = w' := by
  obtain ⟨c0, c1, c2, c3, c4, cf⟩ := rcells_cells h
  have hlen := h.len
  have hsz : (strOf m.bs).size = m.bs.length := rfl
  clear h
  by_cases h1 : at_ < 0
  · rw [lookE_out (.inl h1)]
    go_enter Tryd.func75, Tryd.ntmps75
    go_wp2_with fail
    go_ret
    exact ⟨rfl, rfl⟩
  by_cases h2 : n < 0
  · rw [lookE_out (.inr (.inl h2))]
    go_enter Tryd.func75, Tryd.ntmps75
    go_wp2_with fail
    go_ret
    exact ⟨rfl, rfl⟩
  by_cases h3 : (m.bs.length : Int) < at_
  · rw [lookE_out (.inr (.inr (.inl h3)))]
    go_enter Tryd.func75, Tryd.ntmps75
    go_wp2_with fail
    go_ret
    exact ⟨rfl, rfl⟩
  by_cases h4 : (m.bs.length : Int) - at_ < n
  · rw [lookE_out (.inr (.inr (.inr h4)))]
    go_enter Tryd.func75, Tryd.ntmps75
    go_wp2_with fail
    go_ret
    exact ⟨rfl, rfl⟩
  have hno : ¬ (at_ < 0 ∨ n < 0 ∨ (m.bs.length : Int) < at_ ∨ (m.bs.length : Int) - at_ < n) := by omega
  cases ho : m.off
  · rw [ho] at c1
    rw [lookE_in hno]
    clear hno
    go_enter Tryd.func75, Tryd.ntmps75
    go_wp2_with fail
    go_ret
    exact ⟨rfl, rfl⟩
  · rw [ho] at c1
    rw [lookE_off hno]
    clear hno
    go_enter Tryd.func75, Tryd.ntmps75
    go_wp2_with fail
    go_ret
    exact ⟨rfl, rfl⟩

theorem rCut_any (r : Nat) (m : CM) (left : Int) (cuts : Bool) (n : Int) (w : World) (h : RCellsAt w r m left cuts) :
    Calls Tryd.prog 50 #[.pointer (some ⟨r, 0, none⟩), .int .i64 n] w fun e w' => e = .returned (.int .i64 (cutE m.off n : Nat)) ∧ RC w' r (cutM m n) ∧ Keep (· = r) w w' := by
  obtain ⟨c0, c1, c2, c3, c4, cf⟩ := rcells_cells h
  have H := Lib.hid h
  clear h
  unfold cutE cutM
  by_cases h1 : n < 0
  · rw [if_pos h1, if_pos h1]
    go_enter Tryd.func50, Tryd.ntmps50
    go_wp2_with fail
    go_ret
    exact ⟨rfl, ⟨_, _, H.out⟩, Keep.refl _ _⟩
  rw [if_neg h1, if_neg h1]
  cases ho : m.off
  · rw [ho] at c1
    rw [if_neg (by decide), if_neg (by decide)]
    have hb : ((w.setCell ⟨r, 3, none⟩ (.bool true)).setCell ⟨r, 2, none⟩ (.int .i64 n)).heap[r]? = some (rcellC ⟨m.bs, m.off, n, m.wr⟩ n true) := by
      have h := H.out.box
      unfold rcellC at h ⊢
      rw [get_setCell _ (get_setCell _ h)]; rfl
    have R2 : Hid (RCellsAt ((w.setCell ⟨r, 3, none⟩ (.bool true)).setCell ⟨r, 2, none⟩ (.int .i64 n)) r ⟨m.bs, m.off, n, m.wr⟩ n true) := (show RCellsAt _ r ⟨m.bs, m.off, n, m.wr⟩ n true from ⟨hb, .inr ⟨rfl, rfl, by omega⟩, H.out.len⟩)
    rw [ho] at R2
    clear hb
    go_enter Tryd.func50, Tryd.ntmps50
    go_wp2_with fail
    go_ret
    exact ⟨rfl, ⟨_, _, by have := R2.out; rw [← ho] at this ⊢; exact this⟩, (keep_set w r 3 _).trans (keep_set _ r 2 _)⟩
  · rw [ho] at c1
    rw [if_pos rfl, if_pos rfl]
    go_enter Tryd.func50, Tryd.ntmps50
    go_wp2_with fail
    go_ret
    exact ⟨rfl, ⟨_, _, H.out⟩, Keep.refl _ _⟩

theorem rOn_any (r : Nat) (m : CM) (left : Int) (cuts : Bool) (w : World) (h : RCellsAt w r m left cuts) :
    Calls Tryd.prog 49 #[.pointer (some ⟨r, 0, none⟩)] w fun e w' => e = .returned (.tuple #[]) ∧ RCellsAt w' r ⟨m.bs, false, -1, m.wr⟩ left false ∧ Keep (· = r) w w' := by
  obtain ⟨c0, c1, c2, c3, c4, cf⟩ := rcells_cells h
  have hb : ((w.setCell ⟨r, 1, none⟩ (.bool false)).setCell ⟨r, 3, none⟩ (.bool false)).heap[r]? = some (rcellC ⟨m.bs, false, -1, m.wr⟩ left false) := by
    have h := h.box
    unfold rcellC at h ⊢
    rw [get_setCell _ (get_setCell _ h)]; rfl
  have R2 := Lib.hid (show RCellsAt _ r ⟨m.bs, false, -1, m.wr⟩ left false from ⟨hb, .inl ⟨rfl, rfl⟩, h.len⟩)
  clear h hb
  go_enter Tryd.func49, Tryd.ntmps49
  go_wp2_with fail
  go_end0
  exact ⟨rfl, R2.out, (keep_set w r 1 _).trans (keep_set _ r 3 _)⟩

set_option maxHeartbeats 1000000 in
theorem rWrite_bad (r : Nat) (m : CM) (left : Int) (cuts : Bool) (at_ : Int) (s : ByteArray) (k : Nat) (w : World) (h : RCellsAt w r m left cuts) (hk : lookE m.off m.bs.length at_ s.size = k + 1) :
    Calls Tryd.prog 76 #[.pointer (some ⟨r, 0, none⟩), .int .i64 at_, .string s] w fun e w' => e = .returned (.int .i64 (k + 1 : Nat)) ∧ w = w' := by
  have H := Lib.hid h
  clear h
  go_enter Tryd.func76, Tryd.ntmps76
  go_wp2_with fail
  refine (rError_any r m left cuts at_ s.size w H.out).mono ?_
  rintro e w' ⟨rfl, rfl⟩
  rw [hk]
  have hpos : (0 : Int) < ((k + 1 : Nat) : Int) := by omega
  obtain ⟨kk, hkk⟩ : ∃ kk : Int, kk = ((k + 1 : Nat) : Int) := ⟨_, rfl⟩
  rw [← hkk] at hpos ⊢
  have HKK := Lib.hid hkk
  clear hkk
  go_wp2_with fail
  go_ret
  exact ⟨ret_int HKK.out, rfl⟩

theorem rw_str (bs : List UInt8) (a K : Nat) (s : ByteArray) (hK : K ≤ s.size) (ha : a + K ≤ bs.length) : (strOf bs).extract 0 a ++ s.extract 0 K ++ (strOf bs).extract (a + K) (strOf bs).size = strOf (wBytes bs a s.data.toList K) := by
  apply ByteArray.ext
  apply Array.ext'
  have hsz : (strOf bs).size = bs.length := rfl
  rw [hsz]
  simp only [strOf, wBytes, ByteArray.data_append, ByteArray.data_extract, Array.toList_append, Array.toList_extract]
  simp [List.take_of_length_le]

theorem rc_done {w : World} {r : Nat} {m : CM} {a K : Nat} {s : ByteArray} {W8 : List UInt8} {off' cuts : Bool} {left' wr' : Int} (hK : writeN m.cut s.size = K) (hW : W8 = wBytes m.bs a s.data.toList K) (ho : off' = decide (K < s.size)) (hwr : wr' = m.wr + K)
    (hrel : (cuts = false ∧ cutAt m.cut K = -1) ∨ (cuts = true ∧ cutAt m.cut K = left' ∧ 0 ≤ left')) (hlen : W8.length ≤ 4096) (h : w.heap[r]? = some (rcellC ⟨W8, off', 0, wr'⟩ left' cuts)) : RC w r (writeM m a s.data.toList) := by
  have e : writeM m a s.data.toList = ⟨W8, off', cutAt m.cut K, wr'⟩ := by
    subst hK; subst hW; subst ho; subst hwr; rfl
  rw [e]
  exact ⟨left', cuts, h, hrel, hlen⟩

set_option maxRecDepth 20000 in
set_option maxHeartbeats 4000000 in
theorem rWrite_good (r : Nat) (m : CM) (left : Int) (cuts : Bool) (a : Nat) (s : ByteArray) (w : World) (h : RCellsAt w r m left cuts) (ho : m.off = false) (hn : a + s.size ≤ m.bs.length)
    (hc1 : cuts = true → left ≤ 9223372036854775807) (hw0 : 0 ≤ m.wr) (hw1 : m.wr ≤ 1000000000) :
    Calls Tryd.prog 76 #[.pointer (some ⟨r, 0, none⟩), .int .i64 a, .string s] w fun e w' => e = .returned (.int .i64 (writeE m.cut s.size : Nat)) ∧ RC w' r (writeM m a s.data.toList) ∧ Keep (· = r) w w' := by
  have H := Lib.hid h
  have hl := h.len
  have hk : lookE m.off m.bs.length a s.size = 0 := by rw [ho]; exact lookE_in (by omega)
  obtain ⟨c0, c1, c2, c3, c4, cf⟩ := rcells_cells h
  rw [ho] at c1
  have hrel := h.rel
  have hsz : (strOf m.bs).size = m.bs.length := rfl
  have hsz2 : Hid (s.data.toList.length = s.size) := (rfl : s.data.toList.length = s.size)
  have hbox := h.box
  clear h
  rcases hrel with ⟨rfl, hcut⟩ | ⟨rfl, hcut, hl0⟩
  · clear hc1
    have KWH : Hid (writeN m.cut s.size = s.size) := (show writeN m.cut s.size = s.size from by simp [writeN, hcut])
    have HCT : Hid (cutAt m.cut s.size = -1) := (show cutAt m.cut s.size = -1 from by simp [cutAt, hcut])
    have hbs := rw_str m.bs a s.size s (by omega) (by omega)
    simp only [ByteArray.extract_zero_size, hsz] at hbs
    have hlenW : (wBytes m.bs a s.data.toList s.size).length ≤ 4096 := by rw [wBytes_length m.bs a s.data.toList s.size (by rw [hsz2.out]; omega) (by omega)]; exact hl
    obtain ⟨W8, hW8⟩ : ∃ bb, bb = wBytes m.bs a s.data.toList s.size := ⟨_, rfl⟩
    rw [← hW8] at hbs hlenW
    have HW8 := Lib.hid hW8
    clear hW8
    have hw := IntWalk.i64_in ((a : Int) + s.size) (by omega)
    have hw2 := IntWalk.i64_in (m.wr + (s.size : Int)) (by omega)
    have b1 : (a : Int) ≤ ((strOf m.bs).size : Int) := by omega
    have b2 : (s.size : Int) ≤ (s.size : Int) := by omega
    have b3 : (a : Int) + s.size ≤ ((strOf m.bs).size : Int) := by omega
    have b4 : ((a : Int) + s.size).toNat = a + s.size := by omega
    have h8 : Hid ((w.setCell ⟨r, 0, none⟩ (.string (strOf W8))).drew.heap[r]? = some (rcellC ⟨W8, false, 0, m.wr⟩ left false)) := (show (w.setCell ⟨r, 0, none⟩ (.string (strOf W8))).heap[r]? = some (rcellC ⟨W8, false, 0, m.wr⟩ left false) from by
      unfold rcellC at hbox ⊢
      rw [get_setCell _ hbox]; rw [ho]; rfl)
    have k8 : Hid (Keep (· = r) w (w.setCell ⟨r, 0, none⟩ (.string (strOf W8))).drew) := (show Keep (· = r) w (w.setCell ⟨r, 0, none⟩ (.string (strOf W8))).drew from (keep_set w r 0 (.string (strOf W8))).drew)
    go_enter Tryd.func76, Tryd.ntmps76
    go_wp2_with fail
    refine (rError_any r m left false a s.size w H.out).mono ?_
    rintro e w' ⟨rfl, rfl⟩
    rw [hk]
    rw [show (((0 : Nat) : Int)) = 0 from rfl]
    go_upto_region 8 with fail
    go_region
    generalize World.drew _ = w8 at h8 k8 ⊢
    have q := h8.out
    unfold rcellC at q
    have x1 : w8.cell? ⟨r, 1, none⟩ = some (.bool false) := by simp [World.cell?, q]
    have x2 : w8.cell? ⟨r, 2, none⟩ = some (.int .i64 left) := by simp [World.cell?, q]
    have x3 : w8.cell? ⟨r, 3, none⟩ = some (.bool false) := by simp [World.cell?, q]
    have x4 : w8.cell? ⟨r, 4, none⟩ = some (.int .i64 m.wr) := by simp [World.cell?, q]
    have xf : ∀ o, w8.frozen? ⟨r, o, none⟩ = false := by simp [World.frozen?, q]
    have h9 : Hid ((w8.setCell ⟨r, 4, none⟩ (.int .i64 (m.wr + (s.size : Int)))).heap[r]? = some (rcellC ⟨W8, false, 0, m.wr + (s.size : Int)⟩ left false)) := (show (w8.setCell ⟨r, 4, none⟩ (.int .i64 (m.wr + (s.size : Int)))).heap[r]? = some (rcellC ⟨W8, false, 0, m.wr + (s.size : Int)⟩ left false) from by
      rw [get_setCell _ q]; rfl)
    have k9 := Lib.hid (k8.out.trans (keep_set w8 r 4 (.int .i64 (m.wr + (s.size : Int)))))
    clear q hbs c0 c1 c2 c3 c4 cf hbox
    go_upto_region 10 with fail
    generalize World.setCell _ _ _ = w9 at h9 k9 ⊢
    have q := h9.out
    unfold rcellC at q
    have y1 : w9.cell? ⟨r, 1, none⟩ = some (.bool false) := by simp [World.cell?, q]
    have y2 : w9.cell? ⟨r, 2, none⟩ = some (.int .i64 left) := by simp [World.cell?, q]
    have y3 : w9.cell? ⟨r, 3, none⟩ = some (.bool false) := by simp [World.cell?, q]
    have yf : ∀ o, w9.frozen? ⟨r, o, none⟩ = false := by simp [World.frozen?, q]
    clear x1 x2 x3 x4 xf
    go_wp2_with fail
    go_ret
    exact ⟨ret_int (by rw [show writeE (-1) s.size = 0 by simp [writeE, writeN]]; rfl), rc_done KWH.out HW8.out (by simp) rfl (.inl ⟨rfl, HCT.out⟩) hlenW h9.out, k9.out⟩
  · have hc1 := hc1 rfl
    by_cases hlt : left < (s.size : Int)
    · obtain ⟨L, rfl⟩ : ∃ L : Nat, left = L := ⟨left.toNat, by omega⟩
      have hLs : L < s.size := by omega
      have HLT := Lib.hid hLs
      have KWH : Hid (writeN m.cut s.size = L) := (show writeN m.cut s.size = L from by simp only [writeN, hcut, show ¬ (L : Int) = -1 by omega, if_false]; omega)
      have HCT : Hid (cutAt m.cut L = 0) := (show cutAt m.cut L = 0 from by simp only [cutAt, hcut, show ¬ (L : Int) = -1 by omega, if_false]; omega)
      have HL0 : Hid ((0 : Int) ≤ 0) := (show (0 : Int) ≤ 0 from by decide)
      have EV : Hid (writeE m.cut s.size = 8) := (show writeE m.cut s.size = 8 from by rw [writeE, KWH.out, if_pos hLs])
      clear hcut
      have hbs := rw_str m.bs a L s (by omega) (by omega)
      rw [hsz] at hbs
      have hlenW : (wBytes m.bs a s.data.toList L).length ≤ 4096 := by rw [wBytes_length m.bs a s.data.toList L (by rw [hsz2.out]; omega) (by omega)]; exact hl
      obtain ⟨W8, hW8⟩ : ∃ bb, bb = wBytes m.bs a s.data.toList L := ⟨_, rfl⟩
      rw [← hW8] at hbs hlenW
      have HW8 := Lib.hid hW8
      clear hW8
      have hw := IntWalk.i64_in ((a : Int) + L) (by omega)
      have hw2 := IntWalk.i64_in (m.wr + (L : Int)) (by omega)
      have b1 : (a : Int) ≤ ((strOf m.bs).size : Int) := by omega
      have b2 : (L : Int) ≤ (s.size : Int) := by omega
      have b3 : (a : Int) + L ≤ ((strOf m.bs).size : Int) := by omega
      have b4 : ((a : Int) + L).toNat = a + L := by omega
      have h8 : Hid (((w.setCell ⟨r, 1, none⟩ (.bool true)).setCell ⟨r, 0, none⟩ (.string (strOf W8))).drew.heap[r]? = some (rcellC ⟨W8, true, 0, m.wr⟩ (L : Int) true)) := (show ((w.setCell ⟨r, 1, none⟩ (.bool true)).setCell ⟨r, 0, none⟩ (.string (strOf W8))).heap[r]? = some (rcellC ⟨W8, true, 0, m.wr⟩ (L : Int) true) from by
        unfold rcellC at hbox ⊢
        rw [get_setCell _ (get_setCell _ hbox)]; rfl)
      have k8 : Hid (Keep (· = r) w ((w.setCell ⟨r, 1, none⟩ (.bool true)).setCell ⟨r, 0, none⟩ (.string (strOf W8))).drew) := (show Keep (· = r) w ((w.setCell ⟨r, 1, none⟩ (.bool true)).setCell ⟨r, 0, none⟩ (.string (strOf W8))).drew from ((keep_set w r 1 (.bool true)).trans (keep_set _ r 0 (.string (strOf W8)))).drew)
      go_enter Tryd.func76, Tryd.ntmps76
      go_wp2_with fail
      refine (rError_any r m (L : Int) true a s.size w H.out).mono ?_
      rintro e w' ⟨rfl, rfl⟩
      rw [hk]
      rw [show (((0 : Nat) : Int)) = 0 from rfl]
      go_upto_region 8 with fail
      go_region
      generalize World.drew _ = w8 at h8 k8 ⊢
      have q := h8.out
      unfold rcellC at q
      have x1 : w8.cell? ⟨r, 1, none⟩ = some (.bool true) := by simp [World.cell?, q]
      have x2 : w8.cell? ⟨r, 2, none⟩ = some (.int .i64 (L : Int)) := by simp [World.cell?, q]
      have x3 : w8.cell? ⟨r, 3, none⟩ = some (.bool true) := by simp [World.cell?, q]
      have x4 : w8.cell? ⟨r, 4, none⟩ = some (.int .i64 m.wr) := by simp [World.cell?, q]
      have xf : ∀ o, w8.frozen? ⟨r, o, none⟩ = false := by simp [World.frozen?, q]
      have h9 : Hid ((w8.setCell ⟨r, 4, none⟩ (.int .i64 (m.wr + (L : Int)))).heap[r]? = some (rcellC ⟨W8, true, 0, m.wr + (L : Int)⟩ (L : Int) true)) := (show (w8.setCell ⟨r, 4, none⟩ (.int .i64 (m.wr + (L : Int)))).heap[r]? = some (rcellC ⟨W8, true, 0, m.wr + (L : Int)⟩ (L : Int) true) from by
        rw [get_setCell _ q]; rfl)
      have k9 := Lib.hid (k8.out.trans (keep_set w8 r 4 (.int .i64 (m.wr + (L : Int)))))
      clear q hbs c0 c1 c2 c3 c4 cf hbox
      go_upto_region 10 with fail
      generalize World.setCell _ _ _ = w9 at h9 k9 ⊢
      have q := h9.out
      unfold rcellC at q
      have y1 : w9.cell? ⟨r, 1, none⟩ = some (.bool true) := by simp [World.cell?, q]
      have y2 : w9.cell? ⟨r, 2, none⟩ = some (.int .i64 (L : Int)) := by simp [World.cell?, q]
      have y3 : w9.cell? ⟨r, 3, none⟩ = some (.bool true) := by simp [World.cell?, q]
      have yf : ∀ o, w9.frozen? ⟨r, o, none⟩ = false := by simp [World.frozen?, q]
      clear x1 x2 x3 x4 xf
      have h10 : Hid ((w9.setCell ⟨r, 2, none⟩ (.int .i64 (0))).heap[r]? = some (rcellC ⟨W8, true, 0, m.wr + (L : Int)⟩ (0) true)) := (show (w9.setCell ⟨r, 2, none⟩ (.int .i64 (0))).heap[r]? = some (rcellC ⟨W8, true, 0, m.wr + (L : Int)⟩ (0) true) from by
        rw [get_setCell _ q]; rfl)
      have k10 := Lib.hid (k9.out.trans (keep_set w9 r 2 (.int .i64 (0))))
      have hw3 := Lib.hid (rfl : (0 : Nat) = 0)
      clear q
      go_upto_region 12 with fail
      generalize World.setCell _ _ _ = w10 at h10 k10 ⊢
      have q := h10.out
      unfold rcellC at q
      have z1 : w10.cell? ⟨r, 1, none⟩ = some (.bool true) := by simp [World.cell?, q]
      clear q
      go_wp2_with fail
      go_ret
      exact ⟨ret_int (by rw [EV.out]; rfl), rc_done KWH.out HW8.out (decide_eq_true HLT.out).symm rfl (.inr ⟨rfl, HCT.out, HL0.out⟩) hlenW h10.out, k10.out⟩
    · have KWH : Hid (writeN m.cut s.size = s.size) := (show writeN m.cut s.size = s.size from by simp only [writeN, hcut, show ¬ left = -1 by omega, if_false]; omega)
      have HCT : Hid (cutAt m.cut s.size = left - (s.size : Int)) := (show cutAt m.cut s.size = left - (s.size : Int) from by simp only [cutAt, hcut, show ¬ left = -1 by omega, if_false])
      have HL0 : Hid ((0 : Int) ≤ left - (s.size : Int)) := (show (0 : Int) ≤ left - (s.size : Int) from by omega)
      have EV : Hid (writeE m.cut s.size = 0) := (show writeE m.cut s.size = 0 from by rw [writeE, KWH.out, if_neg (Nat.lt_irrefl _)])
      clear hcut
      have hbs := rw_str m.bs a s.size s (by omega) (by omega)
      simp only [ByteArray.extract_zero_size, hsz] at hbs
      have hlenW : (wBytes m.bs a s.data.toList s.size).length ≤ 4096 := by rw [wBytes_length m.bs a s.data.toList s.size (by rw [hsz2.out]; omega) (by omega)]; exact hl
      obtain ⟨W8, hW8⟩ : ∃ bb, bb = wBytes m.bs a s.data.toList s.size := ⟨_, rfl⟩
      rw [← hW8] at hbs hlenW
      have HW8 := Lib.hid hW8
      clear hW8
      have hw := IntWalk.i64_in ((a : Int) + s.size) (by omega)
      have hw2 := IntWalk.i64_in (m.wr + (s.size : Int)) (by omega)
      have b1 : (a : Int) ≤ ((strOf m.bs).size : Int) := by omega
      have b2 : (s.size : Int) ≤ (s.size : Int) := by omega
      have b3 : (a : Int) + s.size ≤ ((strOf m.bs).size : Int) := by omega
      have b4 : ((a : Int) + s.size).toNat = a + s.size := by omega
      have h8 : Hid ((w.setCell ⟨r, 0, none⟩ (.string (strOf W8))).drew.heap[r]? = some (rcellC ⟨W8, false, 0, m.wr⟩ left true)) := (show (w.setCell ⟨r, 0, none⟩ (.string (strOf W8))).heap[r]? = some (rcellC ⟨W8, false, 0, m.wr⟩ left true) from by
        unfold rcellC at hbox ⊢
        rw [get_setCell _ hbox]; rw [ho]; rfl)
      have k8 : Hid (Keep (· = r) w (w.setCell ⟨r, 0, none⟩ (.string (strOf W8))).drew) := (show Keep (· = r) w (w.setCell ⟨r, 0, none⟩ (.string (strOf W8))).drew from (keep_set w r 0 (.string (strOf W8))).drew)
      go_enter Tryd.func76, Tryd.ntmps76
      go_wp2_with fail
      refine (rError_any r m left true a s.size w H.out).mono ?_
      rintro e w' ⟨rfl, rfl⟩
      rw [hk]
      rw [show (((0 : Nat) : Int)) = 0 from rfl]
      go_upto_region 8 with fail
      go_region
      generalize World.drew _ = w8 at h8 k8 ⊢
      have q := h8.out
      unfold rcellC at q
      have x1 : w8.cell? ⟨r, 1, none⟩ = some (.bool false) := by simp [World.cell?, q]
      have x2 : w8.cell? ⟨r, 2, none⟩ = some (.int .i64 left) := by simp [World.cell?, q]
      have x3 : w8.cell? ⟨r, 3, none⟩ = some (.bool true) := by simp [World.cell?, q]
      have x4 : w8.cell? ⟨r, 4, none⟩ = some (.int .i64 m.wr) := by simp [World.cell?, q]
      have xf : ∀ o, w8.frozen? ⟨r, o, none⟩ = false := by simp [World.frozen?, q]
      have h9 : Hid ((w8.setCell ⟨r, 4, none⟩ (.int .i64 (m.wr + (s.size : Int)))).heap[r]? = some (rcellC ⟨W8, false, 0, m.wr + (s.size : Int)⟩ left true)) := (show (w8.setCell ⟨r, 4, none⟩ (.int .i64 (m.wr + (s.size : Int)))).heap[r]? = some (rcellC ⟨W8, false, 0, m.wr + (s.size : Int)⟩ left true) from by
        rw [get_setCell _ q]; rfl)
      have k9 := Lib.hid (k8.out.trans (keep_set w8 r 4 (.int .i64 (m.wr + (s.size : Int)))))
      clear q hbs c0 c1 c2 c3 c4 cf hbox
      go_upto_region 10 with fail
      generalize World.setCell _ _ _ = w9 at h9 k9 ⊢
      have q := h9.out
      unfold rcellC at q
      have y1 : w9.cell? ⟨r, 1, none⟩ = some (.bool false) := by simp [World.cell?, q]
      have y2 : w9.cell? ⟨r, 2, none⟩ = some (.int .i64 left) := by simp [World.cell?, q]
      have y3 : w9.cell? ⟨r, 3, none⟩ = some (.bool true) := by simp [World.cell?, q]
      have yf : ∀ o, w9.frozen? ⟨r, o, none⟩ = false := by simp [World.frozen?, q]
      clear x1 x2 x3 x4 xf
      have h10 : Hid ((w9.setCell ⟨r, 2, none⟩ (.int .i64 (left - (s.size : Int)))).heap[r]? = some (rcellC ⟨W8, false, 0, m.wr + (s.size : Int)⟩ (left - (s.size : Int)) true)) := (show (w9.setCell ⟨r, 2, none⟩ (.int .i64 (left - (s.size : Int)))).heap[r]? = some (rcellC ⟨W8, false, 0, m.wr + (s.size : Int)⟩ (left - (s.size : Int)) true) from by
        rw [get_setCell _ q]; rfl)
      have k10 := Lib.hid (k9.out.trans (keep_set w9 r 2 (.int .i64 (left - (s.size : Int)))))
      have hw3 := IntWalk.i64_in (left - (s.size : Int)) (by omega)
      clear q
      go_upto_region 12 with fail
      generalize World.setCell _ _ _ = w10 at h10 k10 ⊢
      have q := h10.out
      unfold rcellC at q
      have z1 : w10.cell? ⟨r, 1, none⟩ = some (.bool false) := by simp [World.cell?, q]
      clear q
      go_wp2_with fail
      go_ret
      exact ⟨ret_int (by rw [EV.out]; rfl), rc_done KWH.out HW8.out (by simp) rfl (.inr ⟨rfl, HCT.out, HL0.out⟩) hlenW h10.out, k10.out⟩
end Go.Proofs.YtkhcepdeppmofaaDoor
