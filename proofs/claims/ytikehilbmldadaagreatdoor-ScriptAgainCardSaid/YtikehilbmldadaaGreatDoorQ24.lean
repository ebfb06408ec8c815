import Derived.Test.YtikehilbmldadaaGreatDoorQ23
import Derived.Lib.Join
import Derived.Lib.Strings
import Derived.Lib.IndexLaws
import Derived.Lib.AtoiAllCases
import Derived.Lib.AtoiErrMem
import Derived.Deep.DeepCutAuto
import Derived.BigQuiet
set_option maxHeartbeats 2000000
namespace Go.Proofs.YtikehilbmldadaaGreatDoor
open Go.RowKit
set_option linter.unusedVariables false
def scNum (s : ByteArray) : Option Nat :=
  match Lib.atoiAll s.data.toList with
  | .ok v => if s.size ≤ 5 ∧ 0 ≤ v ∧ Lib.itoa v = s.data.toList then some v.toNat else none
  | _ => none
def scWords : List (ByteArray × Nat) := [(⟨#[98, 101, 103, 105, 110]⟩, 1), (⟨#[115, 116, 111, 112]⟩, 1), (⟨#[114, 101, 112, 111, 114, 116]⟩, 2), (⟨#[116, 105, 99, 107]⟩, 1), (⟨#[99, 117, 116]⟩, 1), (⟨#[98, 111, 111, 116]⟩, 0), (⟨#[115, 116, 97, 116, 117, 115]⟩, 1),
  (⟨#[110, 111, 119]⟩, 0), (⟨#[107, 105, 99, 107, 115]⟩, 0), (⟨#[116, 111, 116, 97, 108]⟩, 0), (⟨#[115, 116, 97, 116, 101]⟩, 0), (⟨#[99, 97, 117, 115, 101]⟩, 0), (⟨#[108, 111, 103]⟩, 0), (⟨#[99, 111, 110, 102, 105, 103]⟩, 0)]
def scIdx (s : ByteArray) : Option Nat := scWords.findIdx? (fun p => p.1.data.toList == s.data.toList)
def scMany (i : Nat) : Nat := (scWords.getD i (ByteArray.empty, 0)).2
def scNums (i : Nat) : Nat → List ByteArray → Option (List Nat)
  | _, [] => some []
  | j, s :: r => match scNum s with
    | none => none
    | some k => if j = 0 ∧ i ≠ 3 ∧ i ≠ 4 ∧ 9 < k then none else match scNums i (j + 1) r with
      | none => none
      | some l => some (k :: l)
def okS : ByteArray := ⟨#[111, 107]⟩
def nothingS : ByteArray := ⟨#[110, 111, 116, 104, 105, 110, 103]⟩
def scRec (r : RecV) : List UInt8 := Lib.join [Lib.itoa r.seq, Lib.itoa r.ent, Lib.itoa r.kind, Lib.itoa r.tick] [32]
def scLog (L : List RecV) : ByteArray := if L = [] then nothingS else strV (Lib.join (L.map scRec) [44, 32])
def scTrim (l : List UInt8) : List UInt8 := Lib.trimSuffix l [10]
def repN (l : List UInt8) : List UInt8 := l.flatMap (fun c => if c = 10 then [59, 32] else [c])
def scConf (txt : ByteArray) : ByteArray := strV (repN (scTrim txt.data.toList))
def scDo (txt : ByteArray) (M : KpM) (i : Nat) (ns : List Nat) : Nat × ByteArray × KpM :=
  let n : Int := ns.getD 0 0
  match i with
  | 0 => ((kpBegin M n).1, okS, (kpBegin M n).2)
  | 1 => ((kpStop M n).1, okS, (kpStop M n).2)
  | 2 => ((kpReport M n (ns.getD 1 0)).1, okS, (kpReport M n (ns.getD 1 0)).2)
  | 3 => ((kpTicks M (ns.getD 0 0)).1, okS, (kpTicks M (ns.getD 0 0)).2)
  | 4 => (cutE M.m.off n, okS, { M with m := cutM M.m n })
  | 5 => ((kpBoot M).1, okS, (kpBoot M).2)
  | 6 => if n < M.A.length then (0, kpStat (kpGet M n.toNat), M) else (5, ByteArray.empty, M)
  | 7 => (0, strV (Lib.itoa M.D.now), M)
  | 8 => (0, strV (Lib.itoa M.D.kicks), M)
  | 9 => (0, M.st.str, M)
  | 10 => (0, kpState M, M)
  | 11 => (0, if M.L = [] then nothingS else strV (scRec (lastZ M.L)), M)
  | 12 => (0, scLog M.L, M)
  | _ => (0, scConf txt, M)
def scAsk (line : ByteArray) : Option (Nat × List Nat) := match piecesB 32 line with
  | [] => none
  | w :: r => match scIdx w with
    | none => none
    | some i => if r.length ≠ scMany i then none else match scNums i 0 r with
      | none => none
      | some ns => some (i, ns)
def scPlay (txt : ByteArray) (M : KpM) (line : ByteArray) : Nat × ByteArray × KpM := match scAsk line with
  | none => (1, ByteArray.empty, M)
  | some (i, ns) => scDo txt M i ns
def scTk (line : ByteArray) : Nat := match scAsk line with
  | some (3, n :: _) => n
  | _ => 0
def scErr (e : Nat) : ByteArray := (⟨#[110, 105, 103, 104, 116, 119, 97, 116, 99, 104, 58, 32]⟩ : ByteArray) ++ ([⟨#[]⟩, ⟨#[116, 101, 120, 116]⟩, ⟨#[98, 111, 117, 110, 100]⟩, ⟨#[115, 104, 97, 112, 101]⟩, ⟨#[110, 97, 109, 101]⟩, ⟨#[110, 111, 110, 101]⟩, ⟨#[101, 120, 105, 115, 116]⟩, ⟨#[102, 117, 108, 108]⟩, ⟨#[111, 102, 102]⟩, ⟨#[105, 100, 108, 101]⟩, ⟨#[104, 101, 108, 100]⟩, ⟨#[114, 101, 115, 101, 116]⟩] : List ByteArray).getD e ⟨#[]⟩
def scLine (txt : ByteArray) (M : KpM) (line : ByteArray) : ByteArray × KpM := (if (scPlay txt M line).1 = 0 then (scPlay txt M line).2.1 else scErr (scPlay txt M line).1, (scPlay txt M line).2.2)
def scRun (txt : ByteArray) : KpM → List ByteArray → List ByteArray × KpM
  | M, [] => ([], M)
  | M, s :: r => ((scLine txt M s).1 :: (scRun txt (scLine txt M s).2 r).1, (scRun txt (scLine txt M s).2 r).2)
theorem scRun_len (txt : ByteArray) : ∀ (l : List ByteArray) (M : KpM), (scRun txt M l).1.length = l.length
  | [], _ => rfl
  | s :: r, M => by simp [scRun, scRun_len txt r]
theorem scRun_take (txt : ByteArray) : ∀ (l : List ByteArray) (k : Nat) (M : KpM), (scRun txt M (l.take k)).1 = (scRun txt M l).1.take k
  | l, 0, M => by simp [scRun]
  | [], k + 1, M => by simp [scRun]
  | s :: r, k + 1, M => by simp [scRun, scRun_take txt r k]
theorem scRun_snoc (txt : ByteArray) (s : ByteArray) : ∀ (l : List ByteArray) (M : KpM), scRun txt M (l ++ [s]) = ((scRun txt M l).1 ++ [(scLine txt (scRun txt M l).2 s).1], (scLine txt (scRun txt M l).2 s).2)
  | [], M => rfl
  | a :: r, M => by simp [scRun, scRun_snoc txt s r]
theorem scDo_ok {txt : ByteArray} {M : KpM} {T i : Nat} {ns : List Nat} (h : KpOk M T) (ht : T + 2 * (if i = 3 then ns.getD 0 0 else 0) ≤ 400000) (hn : (ns.getD 0 0 : Nat) ≤ 9223372036854775807) : KpOk (scDo txt M i ns).2.2 (T + 2 * (if i = 3 then ns.getD 0 0 else 0)) := by
  unfold scDo
  split <;> simp only [Nat.reduceEqDiff, if_true, if_false, Nat.mul_zero, Nat.add_zero] at ht ⊢
  · exact kpBegin_ok h _
  · exact kpStop_ok h _
  · exact kpReport_ok h _ _
  · exact kpTicks_ok h _ ht
  · exact kpCut_ok h (by omega)
  · exact kpBoot_ok h
  · split <;> exact h
  · exact h
  · exact h
  · exact h
  · exact h
  · exact h
  · exact h
  · exact h.up (by omega) ht
end Go.Proofs.YtikehilbmldadaaGreatDoor
namespace Go.Proofs.YtikehilbmldadaaGreatDoor
open Go.RowKit
set_option linter.unusedVariables false
def cutL (c : UInt8) : List UInt8 → List (List UInt8)
  | [] => [[]]
  | x :: l => if x = c then [] :: cutL c l else match cutL c l with
    | [] => [[x]]
    | h :: t => (x :: h) :: t
def interL (c : UInt8) : List (List UInt8) → List UInt8
  | [] => []
  | [p] => p
  | p :: q :: ps => p ++ c :: interL c (q :: ps)
theorem cut_cons (c x : UInt8) (l : List UInt8) : cutL c (x :: l) = if x = c then [] :: cutL c l else match cutL c l with
    | [] => [[x]]
    | h :: t => (x :: h) :: t := rfl
theorem cut_ne (c : UInt8) : ∀ l, cutL c l ≠ []
  | [] => by simp [cutL]
  | x :: l => by
    unfold cutL
    split
    · simp
    · split <;> simp
theorem cut_miss (c : UInt8) : ∀ l : List UInt8, c ∉ l → cutL c l = [l]
  | [], _ => rfl
  | x :: l, h => by
    have h1 : ¬ x = c := fun e => h (by simp [e])
    have h2 := cut_miss c l (fun e => h (List.mem_cons_of_mem _ e))
    unfold cutL
    rw [if_neg h1, h2]
theorem cut_hit (c : UInt8) (b : List UInt8) : ∀ a : List UInt8, c ∉ a → cutL c (a ++ c :: b) = a :: cutL c b
  | [], _ => by simp [cutL]
  | x :: a, h => by
    have h1 : ¬ x = c := fun e => h (by simp [e])
    have h2 := cut_hit c b a (fun e => h (List.mem_cons_of_mem _ e))
    show cutL c (x :: (a ++ c :: b)) = _
    rw [cut_cons, if_neg h1, h2]
theorem inter_cons (c : UInt8) (p : List UInt8) {ps : List (List UInt8)} (h : ps ≠ []) : interL c (p :: ps) = p ++ c :: interL c ps := by
  cases ps with
  | nil => exact absurd rfl h
  | cons q ps => rfl
theorem inter_cut (c : UInt8) : ∀ l, interL c (cutL c l) = l
  | [] => rfl
  | x :: l => by
    have ih := inter_cut c l
    have hne := cut_ne c l
    unfold cutL
    split
    · next h => rw [inter_cons c [] hne, ih, h]; rfl
    · split
      · next h => exact absurd h hne
      · next h t he =>
        rw [he] at ih
        cases t with
        | nil =>
          show x :: h = x :: l
          rw [show h = l from ih]
        | cons q t =>
          show x :: h ++ c :: interL c (q :: t) = x :: l
          rw [← ih]; rfl
theorem cut_inter (c : UInt8) : ∀ ps : List (List UInt8), ps ≠ [] → (∀ p ∈ ps, c ∉ p) → cutL c (interL c ps) = ps
  | [], h, _ => absurd rfl h
  | [p], _, h => cut_miss c p (h p (List.mem_cons_self ..))
  | p :: q :: ps, _, h => by
    rw [inter_cons c p (by simp), cut_hit c _ p (h p (List.mem_cons_self ..)), cut_inter c (q :: ps) (by simp) (fun x hx => h x (List.mem_cons_of_mem _ hx))]
theorem splitK_cut (c : UInt8) : ∀ (k : Nat) (l : List UInt8), l.count c = k → Lib.splitK [c] 0 k l = cutL c l
  | 0, l, h => by
    have hm : c ∉ l := List.count_eq_zero.1 h
    rw [cut_miss c l hm]; rfl
  | k + 1, l, h => by
    have hge := Lib.indexByte_ge l c
    by_cases hi : Lib.indexByte l c = -1
    · exfalso
      have hm : c ∈ l := List.count_pos_iff.1 (by omega)
      obtain ⟨j, hj, he⟩ := List.mem_iff_getElem.1 hm
      exact Lib.indexByte_none hi j (by rw [List.getElem?_eq_getElem hj, he])
    · obtain ⟨o, ho⟩ : ∃ o : Nat, Lib.indexByte l c = o := ⟨(Lib.indexByte l c).toNat, by omega⟩
      obtain ⟨h1, h2⟩ := Lib.indexByte_some ho
      have ho2 : o < l.length := (List.getElem?_eq_some_iff.1 h1).1
      have hsplit : l = l.take o ++ c :: l.drop (o + 1) := by
        have : l[o] = c := (List.getElem?_eq_some_iff.1 h1).2
        rw [← this, List.getElem_cons_drop, List.take_append_drop]
      have hno : c ∉ l.take o := by
        intro hm
        obtain ⟨j, hj, he⟩ := List.mem_iff_getElem.1 hm
        rw [List.length_take] at hj
        rw [List.getElem_take] at he
        exact h2 j (by omega) (by rw [List.getElem?_eq_getElem (by omega), he])
      have hcnt : (l.drop (o + 1)).count c = k := by
        have := congrArg (List.count c) hsplit
        rw [List.count_append, List.count_eq_zero.2 hno, List.count_cons_self] at this
        omega
      have e : Lib.splitK [c] 0 (k + 1) l = l.take o :: Lib.splitK [c] 0 k (l.drop (o + 1)) := by
        rw [Lib.splitK]
        rw [Lib.index_one, ho, if_neg (by simp)]
        simp
      rw [e, splitK_cut c k _ hcnt]
      conv => rhs; rw [hsplit]
      rw [cut_hit c _ _ hno]
theorem pieces_cut (c : UInt8) (s : ByteArray) : (piecesB c s).map (·.data.toList) = cutL c s.data.toList := by
  unfold piecesB
  rw [Lib.splitB_data]
  refine splitK_cut c _ _ ?_
  show _ = Lib.count s.data.toList [c]
  rw [Lib.count_one]
end Go.Proofs.YtikehilbmldadaaGreatDoor
namespace Go.Proofs.YtikehilbmldadaaGreatDoor
open Go.RowKit
set_option linter.unusedVariables false
def numV (s : ByteArray) : Option Nat :=
  match Lib.atoiAll s.data.toList with
  | .ok v => if s.size ≤ 13 ∧ 0 ≤ v ∧ Lib.itoa v = s.data.toList then some v.toNat else none
  | _ => none
structure NumB (B : Nat) (w : World) : Prop where
  tab : TabB B w
  es : ∃ t p, w.cell? ⟨13, 0, none⟩ = some (.iface t p)
  er : ∃ t p, w.cell? ⟨14, 0, none⟩ = some (.iface t p)
  low : 13 < B ∧ 14 < B
theorem NumB.below {B C : Nat} {w w' : World} (h : NumB B w) (b : Below C w w') (hC : B ≤ C) : NumB B w' := by
  obtain ⟨t, p, h1⟩ := h.es
  obtain ⟨t', p', h2⟩ := h.er
  have hl := h.low
  exact ⟨h.tab.low b hC, ⟨t, p, by rw [b.cell (p := ⟨13, 0, none⟩) (show 13 < C by omega)]; exact h1⟩, ⟨t', p', by rw [b.cell (p := ⟨14, 0, none⟩) (show 14 < C by omega)]; exact h2⟩, hl⟩
theorem number_any (B : Nat) (s : ByteArray) (hs : s.size ≤ 100000) (w : World) (hN : NumB B w) (hB : B ≤ w.heap.size) :
    Calls Tryz.prog 112 #[.string s] w fun e w' => ∃ n, e = .returned (.tuple #[.int .i64 n, .bool (numV s).isSome]) ∧ (∀ k, numV s = some k → n = k) ∧ Below w.heap.size w w' := by
  have HN := Lib.hid hN
  have HB := Lib.hid hB
  cases hA : Lib.atoiAll s.data.toList
  case ok v =>
    obtain ⟨b0, b1⟩ := Lib.atoiAll_bounds hA
    have HC := Lib.hid (Tryz.strconv_Atoi_ok s (by omega) v hA w)
    have HNV := Lib.hid (show numV s = if s.size ≤ 13 ∧ 0 ≤ v ∧ Lib.itoa v = s.data.toList then some v.toNat else none from by unfold numV; rw [hA])
    have HIT := Lib.hid (fun W (hW : Below w.heap.size w W) => itoa_any B v W ((hN.below hW hB).tab) b0 b1)
    clear hA hN b0 b1 hB hs
    go_enter Tryz.func112, Tryz.ntmps112
    go_wp2_with fail
    refine HC.out.mono ?_
    rintro e w1 ⟨rfl, hw⟩
    have hb1 : Below w.heap.size w w1 := by
      rcases hw with rfl | ⟨t, rfl⟩
      · exact Below.refl _ _
      · exact Lib.bytesWorld_below _ _ _
    clear hw HC
    have HI := Lib.hid (HIT.out w1 hb1)
    clear HIT
    by_cases h13 : (s.size : Int) ≤ 13
    · by_cases h0 : 0 ≤ v
      · obtain ⟨z, hz⟩ : ∃ z, (Lib.itoa v == s.toList) = z := ⟨_, rfl⟩
        have HZ := Lib.hid hz
        have H13 := Lib.hid (show s.size ≤ 13 from by omega)
        have H0 := Lib.hid h0
        have hdat : (Lib.itoa v = s.data.toList) ↔ z = true := by
          rw [← HZ.out, beq_iff_eq, ByteArray.toList_eq]
        have HD := Lib.hid hdat
        clear hdat
        have HR : Hid (z = (numV s).isSome) := (show z = (numV s).isSome from by
          rw [HNV.out]
          cases z
          · rw [if_neg (fun hh => by have := HD.out.1 hh.2.2; cases this)]; rfl
          · rw [if_pos ⟨H13.out, H0.out, HD.out.2 rfl⟩]; rfl)
        have HK : Hid (∀ k, numV s = some k → v = k) := (show ∀ k, numV s = some k → v = k from by
          intro k hk
          rw [HNV.out] at hk
          split at hk
          · have := Option.some.inj hk
            have := H0.out
            omega
          · cases hk)
        go_wp2_with fail
        refine HI.out.mono ?_
        rintro e w2 ⟨rfl, b2⟩
        have hb2 := hb1.trans (b2.mono hb1.size)
        go_wp2_with fail
        refine bodyPost_ret (results_tmp2 rfl _ _ _) rfl ?_
        exact ⟨_, by rw [← HR.out]; rfl, HK.out, hb2⟩
      · have HR : Hid (numV s = none) := (show numV s = none from by rw [HNV.out, if_neg (fun hh => h0 hh.2.1)])
        clear HNV
        go_wp2_with fail
        refine bodyPost_ret (results_tmp2 rfl _ _ _) rfl ?_
        exact ⟨_, by rw [HR.out]; rfl, (fun k hk => by rw [HR.out] at hk; cases hk), hb1⟩
    · have HR : Hid (numV s = none) := (show numV s = none from by rw [HNV.out, if_neg (fun hh => h13 (by omega))])
      clear HNV
      go_wp2_with fail
      refine bodyPost_ret (results_tmp2 rfl _ _ _) rfl ?_
      exact ⟨_, by rw [HR.out]; rfl, (fun k hk => by rw [HR.out] at hk; cases hk), hb1⟩
  case range =>
    obtain ⟨t, p, her⟩ := hN.er
    have HR : Hid (numV s = none) := (show numV s = none from by unfold numV; rw [hA])
    have HC := Lib.hid (Tryz.strconv_Atoi_range s (by omega) hA (.iface t p) w her (.inr ⟨_, _, rfl⟩))
    clear hA hN her hB hs
    go_enter Tryz.func112, Tryz.ntmps112
    go_wp2_with fail
    refine HC.out.mono ?_
    rintro e w1 ⟨N, rfl, _, _, hb1⟩
    clear HC
    go_wp2_with fail
    refine bodyPost_ret (results_tmp2 rfl _ _ _) rfl ?_
    exact ⟨_, by rw [HR.out]; rfl, (fun k hk => by rw [HR.out] at hk; cases hk), hb1⟩
  all_goals
    obtain ⟨t, p, hes⟩ := hN.es
    have HR : Hid (numV s = none) := (show numV s = none from by unfold numV; rw [hA])
    have HC := Lib.hid (Tryz.strconv_Atoi_bad s (by omega) (fun v hv => by rw [hA] at hv; cases hv) (fun hv => by rw [hA] at hv; cases hv) (.iface t p) w hes (.inr ⟨_, _, rfl⟩))
    clear hA hN hes hB hs
    go_enter Tryz.func112, Tryz.ntmps112
    go_wp2_with fail
    refine HC.out.mono ?_
    rintro e w1 ⟨N, rfl, _, _, hb1⟩
    clear HC
    go_wp2_with fail
    refine bodyPost_ret (results_tmp2 rfl _ _ _) rfl ?_
    exact ⟨_, by rw [HR.out]; rfl, (fun k hk => by rw [HR.out] at hk; cases hk), hb1⟩
end Go.Proofs.YtikehilbmldadaaGreatDoor
namespace Go.Proofs.YtikehilbmldadaaGreatDoor
open Go.RowKit
set_option linter.unusedVariables false
def isDig (c : UInt8) : Bool := decide (48 ≤ c.toNat ∧ c.toNat ≤ 57)
def dval (l : List UInt8) : Nat := l.foldl (fun a c => a * 10 + (c.toNat - 48)) 0
theorem dval_snoc (l : List UInt8) (c : UInt8) : dval (l ++ [c]) = dval l * 10 + (c.toNat - 48) := by simp [dval]
theorem dval_lt : ∀ (n : Nat) (l : List UInt8), l.length = n → (∀ c ∈ l, isDig c = true) → dval l < 10 ^ n
  | 0, l, hl, _ => by obtain rfl := List.eq_nil_of_length_eq_zero hl; simp [dval]
  | n + 1, l, hl, h => by
    have hne : l ≠ [] := by intro e; rw [e] at hl; simp at hl
    have hs := List.dropLast_concat_getLast hne
    have h1 := dval_lt n l.dropLast (by rw [List.length_dropLast]; omega) (fun c hc => h c (List.dropLast_subset _ hc))
    have h2 := h _ (List.getLast_mem hne)
    simp only [isDig, decide_eq_true_eq] at h2
    rw [← hs, dval_snoc, Nat.pow_succ]
    omega
theorem dig_of (i : Nat) (h : i < 10) : (UInt8.ofNat (48 + i)).toNat = 48 + i := by
  rw [UInt8.toNat_ofNat']; omega
theorem decDigits_dig (u : Nat) : ∀ c ∈ Lib.decDigits u, isDig c = true := by
  induction u using Nat.strongRecOn with
  | ind u ih =>
    intro c hc
    rw [Lib.decDigits] at hc
    split at hc
    · next h =>
      obtain rfl := List.mem_singleton.1 hc
      simp only [isDig, decide_eq_true_eq, dig_of u h]; omega
    · next h =>
      rcases List.mem_append.1 hc with hc | hc
      · exact ih (u / 10) (by omega) c hc
      · obtain rfl := List.mem_singleton.1 hc
        simp only [isDig, decide_eq_true_eq, dig_of (u % 10) (by omega)]; omega
theorem dval_dec (u : Nat) : dval (Lib.decDigits u) = u := by
  induction u using Nat.strongRecOn with
  | ind u ih =>
    rw [Lib.decDigits]
    split
    · next h => simp [dval]; rw [Nat.mod_eq_of_lt (by omega)]; omega
    · next h =>
      rw [dval_snoc, ih (u / 10) (by omega), dig_of (u % 10) (by omega)]
      omega
theorem decDigits_ne (u : Nat) : Lib.decDigits u ≠ [] := by
  rw [Lib.decDigits]
  split
  · simp
  · simp
theorem dec_dval : ∀ (n : Nat) (l : List UInt8), l.length = n + 1 → (∀ c ∈ l, isDig c = true) → (n = 0 ∨ l.head? ≠ some 48) → Lib.decDigits (dval l) = l
  | 0, l, hl, h, _ => by
    match l, hl with
    | [c], _ =>
      have h2 := h c (by simp)
      simp only [isDig, decide_eq_true_eq] at h2
      have e : dval [c] = c.toNat - 48 := by simp [dval]
      rw [e, Lib.decDigits_one (by omega)]
      congr 1
      rw [show 48 + (c.toNat - 48) = c.toNat by omega]
      exact UInt8.ofNat_toNat
  | n + 1, l, hl, h, h0 => by
    have hne : l ≠ [] := by intro e; rw [e] at hl; simp at hl
    have hs := List.dropLast_concat_getLast hne
    have hh : l.head? ≠ some 48 := by
      rcases h0 with h0 | h0
      · omega
      · exact h0
    have hd : l.dropLast.head? = l.head? := by
      match l, hl with
      | a :: b :: t, _ => rfl
    have h1 := dec_dval n l.dropLast (by rw [List.length_dropLast]; omega) (fun c hc => h c (List.dropLast_subset _ hc)) (.inr (by rw [hd]; exact hh))
    have h2 := h _ (List.getLast_mem hne)
    simp only [isDig, decide_eq_true_eq] at h2
    have hpos : dval l.dropLast ≠ 0 := by
      intro e
      rw [e] at h1
      have : l.dropLast = [48] := by rw [← h1, Lib.decDigits_one (by decide)]; rfl
      rw [this] at hd
      exact hh hd.symm
    conv => rhs; rw [← hs]
    conv => lhs; rw [← hs]
    rw [dval_snoc, Lib.decDigits, dif_neg (by omega)]
    congr 1
    · rw [show (dval l.dropLast * 10 + ((l.getLast hne).toNat - 48)) / 10 = dval l.dropLast by omega, h1]
    · congr 1
      rw [show 48 + (dval l.dropLast * 10 + ((l.getLast hne).toNat - 48)) % 10 = (l.getLast hne).toNat by omega]
      exact UInt8.ofNat_toNat
theorem parse_snoc (c : UInt8) : ∀ (l : List UInt8) (a n : Nat), Lib.parseUint10 a l = .ok n → Lib.parseUint10 a (l ++ [c]) = Lib.parseUint10 n [c]
  | [], a, n, h => by simp only [Lib.parseUint10] at h; injection h with h; rw [h]; rfl
  | x :: l, a, n, h => by
    simp only [Lib.parseUint10, List.cons_append] at h ⊢
    split at h
    · next hx =>
      rw [if_pos hx]
      split at h
      · cases h
      · next h1 =>
        rw [if_neg h1]
        split at h
        · cases h
        · next h2 =>
          rw [if_neg h2]
          exact parse_snoc c l _ n h
    · cases h
theorem parse_dig : ∀ (n : Nat) (l : List UInt8), l.length = n → n ≤ 13 → (∀ c ∈ l, isDig c = true) → Lib.parseUint10 0 l = .ok (dval l)
  | 0, l, hl, _, _ => by obtain rfl := List.eq_nil_of_length_eq_zero hl; rfl
  | n + 1, l, hl, hn, h => by
    have hne : l ≠ [] := by intro e; rw [e] at hl; simp at hl
    have hs := List.dropLast_concat_getLast hne
    have hD : ∀ c ∈ l.dropLast, isDig c = true := fun c hc => h c (List.dropLast_subset _ hc)
    have h1 := parse_dig n l.dropLast (by rw [List.length_dropLast]; omega) (by omega) hD
    have h2 := h _ (List.getLast_mem hne)
    simp only [isDig, decide_eq_true_eq] at h2
    have hlt := dval_lt n l.dropLast (by rw [List.length_dropLast]; omega) hD
    have hp : 10 ^ n ≤ 10 ^ 12 := Nat.pow_le_pow_right (by decide) (by omega)
    have hp2 : (10 : Nat) ^ 12 = 1000000000000 := by decide
    rw [← hs, parse_snoc _ _ _ _ h1, dval_snoc]
    simp only [Lib.parseUint10]
    rw [if_pos h2, if_neg (by omega), if_neg (by omega)]
def digOk (l : List UInt8) : Bool := decide (1 ≤ l.length) && decide (l.length ≤ 13) && !(decide (1 < l.length) && l.head? == some 48) && l.all isDig
theorem atoi_dig {l : List UInt8} (hl : l.length ≤ 13) (h1 : 1 ≤ l.length) (h : ∀ c ∈ l, isDig c = true) : Lib.atoiAll l = .ok (dval l : Int) := by
  match l, h1 with
  | c :: r, _ =>
    have h2 := h c (by simp)
    simp only [isDig, decide_eq_true_eq] at h2
    rw [Lib.atoiAll_plain c r (by omega) (by omega)]
    unfold Lib.parseMag
    rw [if_neg (by simp), parse_dig _ (c :: r) rfl hl h]
    have hlt := dval_lt _ (c :: r) rfl h
    have hp : 10 ^ (c :: r).length ≤ 10 ^ 13 := Nat.pow_le_pow_right (by decide) hl
    have hp2 : (10 : Nat) ^ 13 = 10000000000000 := by decide
    simp only [Lib.signless]
    rw [if_neg (by omega)]
theorem itoa_dig (k : Nat) : Lib.itoa (k : Int) = Lib.decDigits k := by
  unfold Lib.itoa
  rw [if_neg (by omega), Int.toNat_natCast]
theorem head_dec (k : Nat) (h : 10 ≤ k) : (Lib.decDigits k).head? ≠ some 48 := by
  induction k using Nat.strongRecOn with
  | ind k ih =>
    rw [Lib.decDigits, dif_neg (by omega)]
    by_cases h2 : 10 ≤ k / 10
    · have := ih (k / 10) (by omega) h2
      rw [List.head?_append]
      cases hd : (Lib.decDigits (k / 10)).head? with
      | none => exact absurd (List.head?_eq_none_iff.1 hd) (decDigits_ne _)
      | some c => rw [hd] at this; simpa using this
    · rw [Lib.decDigits_one (by omega)]
      intro e
      have e2 : UInt8.ofNat (48 + k / 10) = 48 := by simpa using e
      have := congrArg UInt8.toNat e2
      rw [dig_of _ (by omega)] at this
      have h48 : (48 : UInt8).toNat = 48 := rfl
      omega
theorem len_dec (k : Nat) (h : 1 < (Lib.decDigits k).length) : 10 ≤ k := by
  rw [Lib.decDigits] at h
  split at h
  · simp at h
  · omega
theorem numV_dig (s : ByteArray) : numV s = if digOk s.data.toList = true then some (dval s.data.toList) else none := by
  have hsz : s.data.toList.length = s.size := by rw [Array.length_toList]; rfl
  split
  · next h =>
    unfold digOk at h
    simp only [Bool.and_eq_true, decide_eq_true_eq, List.all_eq_true, Bool.not_eq_true', Bool.and_eq_false_imp, beq_eq_false_iff_ne] at h
    obtain ⟨⟨⟨h1, h2⟩, h3⟩, h4⟩ := h
    unfold numV
    rw [atoi_dig h2 h1 h4]
    have e : Lib.itoa (dval s.data.toList : Int) = s.data.toList := by
      rw [itoa_dig]
      refine dec_dval (s.data.toList.length - 1) _ (by omega) h4 ?_
      by_cases hl : 1 < s.data.toList.length
      · exact .inr (h3 hl)
      · exact .inl (by omega)
    show (if s.size ≤ 13 ∧ 0 ≤ (dval s.data.toList : Int) ∧ Lib.itoa (dval s.data.toList : Int) = s.data.toList then some (dval s.data.toList : Int).toNat else none) = _
    rw [if_pos ⟨by omega, by omega, e⟩, Int.toNat_natCast]
  · next h =>
    cases hn : numV s with
    | none => rfl
    | some k =>
      exfalso
      apply h
      unfold numV at hn
      split at hn
      · next v hv =>
        split at hn
        · next hc =>
          obtain ⟨h1, h2, h3⟩ := hc
          obtain ⟨m, rfl⟩ : ∃ m : Nat, v = m := ⟨v.toNat, (Int.toNat_of_nonneg h2).symm⟩
          rw [itoa_dig] at h3
          unfold digOk
          simp only [Bool.and_eq_true, decide_eq_true_eq, List.all_eq_true, Bool.not_eq_true', Bool.and_eq_false_imp, beq_eq_false_iff_ne]
          refine ⟨⟨⟨?_, by omega⟩, fun hl => ?_⟩, ?_⟩
          · rw [← h3]
            exact List.length_pos_iff.2 (decDigits_ne m)
          · rw [← h3] at hl ⊢
            exact head_dec m (len_dec m hl)
          · rw [← h3]; exact decDigits_dig m
        · cases hn
      · cases hn
theorem dec_len_le {u k : Nat} (h : u < 10 ^ k) (hk : 1 ≤ k) : (Lib.decDigits u).length ≤ k := by
  induction k generalizing u with
  | zero => omega
  | succ k ih =>
    rw [Lib.decDigits]
    split
    · simp
    · next hu =>
      have hk1 : 1 ≤ k := by
        cases k with
        | zero => simp at h; omega
        | succ k => omega
      have := ih (u := u / 10) (by rw [Nat.pow_succ] at h; omega) hk1
      rw [List.length_append, List.length_singleton]
      omega
theorem numV_itoa_back (k : Nat) (h : k < 10000000000000) : numV ⟨(Lib.itoa (k : Int)).toArray⟩ = some k := by
  rw [numV_dig, itoa_dig]
  have hl := dec_len_le (u := k) (k := 13) (by have : (10 : Nat) ^ 13 = 10000000000000 := by decide
                                               omega) (by decide)
  have h1 := List.length_pos_iff.2 (decDigits_ne k)
  have hd := decDigits_dig k
  have hok : digOk (Lib.decDigits k) = true := by
    unfold digOk
    simp only [Bool.and_eq_true, decide_eq_true_eq, List.all_eq_true, Bool.not_eq_true', Bool.and_eq_false_imp, beq_eq_false_iff_ne]
    exact ⟨⟨⟨h1, hl⟩, fun hh => head_dec k (len_dec k hh)⟩, hd⟩
  show (if digOk (Lib.decDigits k).toArray.toList = true then some (dval (Lib.decDigits k).toArray.toList) else none) = _
  rw [List.toList_toArray, if_pos hok, dval_dec]
end Go.Proofs.YtikehilbmldadaaGreatDoor
namespace Go.Proofs.YtikehilbmldadaaGreatDoor
open Go.RowKit
set_option linter.unusedVariables false
theorem scNum_itoa {k : Nat} (hk : k < 100000) {s : ByteArray} (hs : s.data.toList = Lib.itoa (k : Int)) : scNum s = some k := by
  have h5 := dec_len_le (u := k) (k := 5) (by omega) (by omega)
  have hz : s.size ≤ 5 := by
    show s.data.size ≤ 5
    rw [← Array.length_toList, hs, itoa_dig]; exact h5
  have ha : Lib.atoiAll s.data.toList = .ok (k : Int) := by
    rw [hs, itoa_dig, atoi_dig (by omega) (by have := decDigits_ne k; cases h : Lib.decDigits k with | nil => exact absurd h this | cons a b => simp) (decDigits_dig k), dval_dec]
  unfold scNum
  rw [ha]
  simp only
  rw [if_pos ⟨hz, by omega, hs.symm⟩]
  rfl
def lineL (i : Nat) (ns : List Nat) : List UInt8 := interL 32 ((scWords.getD i (ByteArray.empty, 0)).1.data.toList :: ns.map (fun k : Nat => Lib.itoa (k : Int)))
theorem scNums_itoa (i : Nat) : ∀ (ns : List Nat) (j : Nat) (r : List ByteArray), r.map (·.data.toList) = ns.map (fun k : Nat => Lib.itoa (k : Int)) → (∀ k ∈ ns, k < 100000) → (j = 0 → i ≠ 3 → i ≠ 4 → ns.getD 0 0 ≤ 9) → scNums i j r = some ns
  | [], j, [], _, _, _ => rfl
  | [], j, a :: r, h, _, _ => by simp at h
  | k :: ns, j, [], h, _, _ => by simp at h
  | k :: ns, j, a :: r, h, hk, h9 => by
    simp only [List.map_cons, List.cons.injEq] at h
    unfold scNums
    rw [scNum_itoa (hk k (by simp)) h.1]
    simp only
    rw [if_neg (fun hh => by have := h9 hh.1 hh.2.1 hh.2.2.1; simp at this; omega), scNums_itoa i ns (j + 1) r h.2 (fun q hq => hk q (by simp [hq])) (fun h0 => by omega)]
theorem beq_dataA {a b : ByteArray} (h : a.data.toList = b.data.toList) : a = b := by
  cases a; cases b
  exact congrArg ByteArray.mk (Array.toList_inj.1 h)
theorem itoa_clean (k : Nat) : (32 : UInt8) ∉ Lib.itoa (k : Int) := by
  rw [itoa_dig]
  intro h
  have := decDigits_dig k _ h
  exact absurd this (by decide)
theorem scAsk_line {i : Nat} {ns : List Nat} (hi : i < 14) (hl : ns.length = scMany i) (hk : ∀ k ∈ ns, k < 100000) (h9 : i ≠ 3 → i ≠ 4 → ns.getD 0 0 ≤ 9) {s : ByteArray} (hs : s.data.toList = lineL i ns) : scAsk s = some (i, ns) := by
  have hw : ∀ i : Fin 14, (32 : UInt8) ∉ (scWords.getD i.1 (ByteArray.empty, 0)).1.data.toList ∧ scIdx (scWords.getD i.1 (ByteArray.empty, 0)).1 = some i.1 := by decide
  obtain ⟨hw1, hw2⟩ := hw ⟨i, hi⟩
  have hc := pieces_cut 32 s
  rw [hs, lineL, cut_inter 32 _ (by simp) (fun p hp => by
    rcases List.mem_cons.1 hp with rfl | hp
    · exact hw1
    · obtain ⟨k, _, rfl⟩ := List.mem_map.1 hp
      exact itoa_clean k)] at hc
  unfold scAsk
  cases hp : piecesB 32 s with
  | nil => rw [hp] at hc; simp at hc
  | cons w r =>
    rw [hp] at hc
    simp only [List.map_cons, List.cons.injEq] at hc
    have hwi : scIdx w = some i := by
      rw [← hw2]
      congr 1
      exact beq_dataA hc.1
    simp only [hwi]
    have hr : r.length = ns.length := by have := congrArg List.length hc.2; simpa using this
    rw [if_neg (by omega), scNums_itoa i ns 0 r hc.2 hk (fun _ => h9)]
theorem scTk_line {s : ByteArray} {i : Nat} {ns : List Nat} (h : scAsk s = some (i, ns)) : scTk s = if i = 3 then ns.getD 0 0 else 0 := by
  unfold scTk
  rw [h]
  by_cases h3 : i = 3
  · subst h3
    cases ns <;> rfl
  · rw [if_neg h3]
    split
    · rename_i hh; obtain ⟨rfl, _⟩ := Prod.mk.inj (Option.some.inj hh); exact absurd rfl h3
    · rfl
theorem cut_head (c : UInt8) : ∀ l, ∃ r, cutL c l = l.takeWhile (fun x => x != c) :: r
  | [] => ⟨[], rfl⟩
  | x :: l => by
    obtain ⟨r, hr⟩ := cut_head c l
    rw [cut_cons]
    by_cases h : x = c
    · rw [if_pos h]
      exact ⟨_, by rw [List.takeWhile_cons_of_neg (by simp [h])]⟩
    · rw [if_neg h, hr]
      exact ⟨r, by rw [List.takeWhile_cons_of_pos (by simp [h])]⟩
theorem pieces_head (s : ByteArray) : ∃ w r, piecesB 32 s = w :: r ∧ w.data.toList = s.data.toList.takeWhile (fun x => x != 32) := by
  obtain ⟨r, hr⟩ := cut_head 32 s.data.toList
  have hc := pieces_cut 32 s
  rw [hr] at hc
  cases hp : piecesB 32 s with
  | nil => rw [hp] at hc; simp at hc
  | cons w q =>
    rw [hp] at hc
    simp only [List.map_cons, List.cons.injEq] at hc
    exact ⟨w, q, rfl, hc.1⟩
end Go.Proofs.YtikehilbmldadaaGreatDoor
namespace Go.Proofs.YtikehilbmldadaaGreatDoor
open Go.RowKit
set_option linter.unusedVariables false
theorem scNum_bd {s : ByteArray} {k : Nat} (h : scNum s = some k) : k ≤ 9223372036854775807 := by
  unfold scNum at h
  split at h
  · rename_i v hv
    have := Lib.atoiAll_bounds hv
    split at h
    · have := Option.some.inj h; omega
    · cases h
  · cases h
theorem scNums_bd (i : Nat) : ∀ (r : List ByteArray) (j : Nat) (l : List Nat), scNums i j r = some l → ∀ k ∈ l, k ≤ 9223372036854775807
  | [], j, l, h, k, hk => by obtain rfl := Option.some.inj h; simp at hk
  | s :: r, j, l, h, k, hk => by
    unfold scNums at h
    split at h
    · cases h
    · rename_i q hq
      split at h
      · cases h
      · split at h
        · cases h
        · rename_i l' hl'
          obtain rfl := Option.some.inj h
          rcases List.mem_cons.1 hk with rfl | hk
          · exact scNum_bd hq
          · exact scNums_bd i r (j + 1) l' hl' k hk
theorem scAsk_bd {line : ByteArray} {i : Nat} {ns : List Nat} (h : scAsk line = some (i, ns)) : ∀ k ∈ ns, k ≤ 9223372036854775807 := by
  unfold scAsk at h
  split at h
  · cases h
  · split at h
    · cases h
    · split at h
      · cases h
      · split at h
        · cases h
        · rename_i hns
          obtain ⟨rfl, rfl⟩ := Prod.mk.inj (Option.some.inj h)
          exact scNums_bd _ _ _ _ hns
theorem getD_bd {ns : List Nat} (h : ∀ k ∈ ns, k ≤ 9223372036854775807) (j : Nat) : ns.getD j 0 ≤ 9223372036854775807 := by
  rw [List.getD_eq_getElem?_getD]
  cases hx : ns[j]? with
  | none => simp
  | some k => exact h k (List.mem_of_getElem? hx)
theorem scLine_ok {txt s : ByteArray} {M : KpM} {T : Nat} (h : KpOk M T) (ht : T + 2 * scTk s ≤ 400000) : KpOk (scLine txt M s).2 (T + 2 * scTk s) := by
  show KpOk (scPlay txt M s).2.2 _
  unfold scPlay
  cases ha : scAsk s with
  | none => exact h.up (by omega) ht
  | some p =>
    obtain ⟨i, ns⟩ := p
    rw [scTk_line ha] at ht ⊢
    exact scDo_ok h ht (getD_bd (scAsk_bd ha) 0)
def scTks (l : List ByteArray) : Nat := (l.map scTk).sum
theorem scTks_snoc (l : List ByteArray) (s : ByteArray) : scTks (l ++ [s]) = scTks l + scTk s := by simp [scTks]
end Go.Proofs.YtikehilbmldadaaGreatDoor
namespace Go.Proofs.YtikehilbmldadaaGreatDoor
open Go.RowKit
set_option linter.unusedVariables false
structure KpX where
  d : Nat
  rb : Nat
  cap : Nat
  rg : Nat
  tb : Nat
  lv : Value
  ve : Value
  vl : Value
  X : List EntX
  ls : List Nat
structure Stp (o o' : Nat → Nat) (N : Nat → Prop) (w0 w w' : World) : Prop where
  kp : Keep (fun b => N (o b)) w w'
  agree : ∀ b, b < w.heap.size → o' b = o b
  low : ∀ b, o' b ≠ 0 → w0.heap.size ≤ b ∧ b < w'.heap.size
  bel : Below w0.heap.size w0 w'
def Low (o : Nat → Nat) (w0 w : World) : Prop := ∀ b, o b ≠ 0 → w0.heap.size ≤ b ∧ b < w.heap.size
def ext (o : Nat → Nat) (a b n : Nat) : Nat → Nat := fun x => if a ≤ x ∧ x < b then n else o x
theorem ext_old {o : Nat → Nat} {a b n x : Nat} (h : x < a) : ext o a b n x = o x := if_neg (by omega)
theorem ext_new {o : Nat → Nat} {a b n x : Nat} (h : a ≤ x) (h2 : x < b) : ext o a b n x = n := if_pos ⟨h, h2⟩
theorem Stp.same {o : Nat → Nat} {N : Nat → Prop} {w0 w w' : World} (lo : Low o w0 w) (bl : Below w0.heap.size w0 w) (k : Keep (fun b => N (o b)) w w') (hN : ¬ N 0) : Stp o o N w0 w w' :=
  ⟨k, fun _ _ => rfl, fun b hb => ⟨(lo b hb).1, Nat.lt_of_lt_of_le (lo b hb).2 k.size⟩, bl.trans (k.below bl.size (fun b hb => by
    have : o b ≠ 0 := fun e => by rw [e] at hb; exact hN hb
    exact (lo b this).1))⟩
theorem Stp.new {o : Nat → Nat} {N : Nat → Prop} {w0 w w' : World} {n : Nat} (lo : Low o w0 w) (bl : Below w0.heap.size w0 w) (k : Keep (fun b => N (o b)) w w') (hN : ¬ N 0) : Stp o (ext o w.heap.size w'.heap.size n) N w0 w w' := by
  have hs := bl.size
  have hk := k.size
  refine ⟨k, fun b hb => ext_old hb, fun b hb => ?_, (Stp.same lo bl k hN).bel⟩
  by_cases h : w.heap.size ≤ b ∧ b < w'.heap.size
  · omega
  · unfold ext at hb
    rw [if_neg h] at hb
    have := lo b hb
    omega
section
variable {o o' : Nat → Nat} {N : Nat → Prop} {w0 w w' : World}
theorem Stp.lo (s : Stp o o' N w0 w w') : Low o' w0 w' := s.low
theorem Stp.get (s : Stp o o' N w0 w w') {b n : Nat} {x : Obj} (hb : w.heap[b]? = some x) (hn : o b = n) (h : ¬ N n) : w'.heap[b]? = some x := s.kp.get hb (by rw [hn]; exact h)
theorem Stp.eq (s : Stp o o' N w0 w w') (lo : Low o w0 w) {b n : Nat} (h : o b = n) (hn : n ≠ 0) : o' b = n := by rw [s.agree b (lo b (by rw [h]; exact hn)).2, h]
theorem Stp.sl (s : Stp o o' N w0 w w') {n : Nat} {v : Value} {sz k : Nat} {cs : List Value} (hl : SlOf (fun b => o b = n) w v sz cs k) (hn : ¬ N n) : SlOf (fun b => o' b = n) w' v sz cs k := by
  obtain ⟨hl, ao, cap, hv, h1, h2, h3, h4⟩ := hl
  refine ⟨hl, ao, cap, hv, h1, h2, h3, fun hp => ?_⟩
  obtain ⟨b, off, ha, hR, hb, hc⟩ := h4 hp
  exact ⟨b, off, ha, by show o' b = n; rw [s.agree b hb]; exact hR, Nat.lt_of_lt_of_le hb s.kp.size, fun k u hu => by rw [s.kp.cell hb (by simp only [hR]; exact hn)]; exact hc k u hu⟩
theorem Stp.ents (s : Stp o o' N w0 w w') {n : Nat} {v : Value} {X : List EntX} (h : EntsSl (fun b => o b = n) w v X) (hn : ¬ N n) : EntsSl (fun b => o' b = n) w' v X :=
  ⟨s.sl h.row hn, fun x hx => ⟨s.sl (h.each x hx).p hn, s.sl (h.each x hx).g hn, s.sl (h.each x hx).e hn, s.sl (h.each x hx).f hn, s.sl (h.each x hx).l hn⟩⟩
theorem Stp.cells (s : Stp o o' N w0 w w') {c rb : Nat} {ao : Option Addr} {cap : Nat} {m : CM} (h : CellsAt w c rb ao cap m) (h3 : o c = 3) (h4 : o rb = 4) (n3 : ¬ N 3) (n4 : ¬ N 4) : CellsAt w' c rb ao cap m :=
  h.keep s.kp (fun b hb => ⟨fun e => by subst e; rw [h3] at hb; exact n3 hb, fun e => by subst e; rw [h4] at hb; exact n4 hb⟩)
end
def LocIs (l s t : Nat) (x : EntX) (w : World) : Option LocM → Prop
  | none => w.heap[l]? = some (locC none x.E x.p x.g x.e x.f x.l)
  | some m => LocAt l s t x.E x.p x.g x.e x.f x.l m w
theorem LocAt.le {l s t : Nat} {E : EntV} {vp vg ve vf vl : Value} {m : LocM} {w : World} (h : LocAt l s t E vp vg ve vf vl m w) : t ≤ w.heap.size := by
  obtain ⟨⟨wb, a, g, f, ro, base, lo, hi, h1, h2⟩, ho⟩ := h
  exact h2.top
theorem Stp.loc {o o' : Nat → Nat} {N : Nat → Prop} {w0 w w' : World} (s : Stp o o' N w0 w w') {l a t n : Nat} {x : EntX} {m : Option LocM} (h : LocIs l a t x w m) (hl : o l = 10 + 2 * n) (hw : ∀ b, a ≤ b → b < t → o b = 11 + 2 * n) (n1 : ¬ N (10 + 2 * n)) (n2 : ¬ N (11 + 2 * n)) : LocIs l a t x w' m := by
  cases m with
  | none => exact s.get h hl n1
  | some m => exact h.keep s.kp (by rw [hl]; exact n1) (fun b h1 h2 => by rw [hw b h1 h2]; exact n2)
theorem LocIs.own {o o' : Nat → Nat} {N : Nat → Prop} {w0 w w' : World} (s : Stp o o' N w0 w w') {l a t n : Nat} {x : EntX} {m : Option LocM} (h : LocIs l a t x w m) (hw : ∀ b, a ≤ b → b < t → o b = 11 + 2 * n) : ∃ a' t', (∀ b, a' ≤ b → b < t' → o' b = 11 + 2 * n) ∧ (LocIs l a t x w' m → LocIs l a' t' x w' m) := by
  cases m with
  | none => exact ⟨0, 0, fun b _ h => by omega, fun h => h⟩
  | some m => exact ⟨a, t, fun b h1 h2 => by rw [s.agree b (Nat.lt_of_lt_of_le h2 (LocAt.le h)), hw b h1 h2], fun h => h⟩
def ptrCs (l : List Nat) : List Value := l.map fun b => .pointer (some ⟨b, 0, none⟩)
def kpC (d : Nat) (C : ConfV) (ve : Value) (c : Nat) (vlog vl vt : Value) (txt : ByteArray) : Obj :=
  .cells #[.pointer (some ⟨d, 0, none⟩), .int .i64 C.closed, .int .i64 C.opn, .int .i64 C.cycle, .int .i64 C.delay, ve, .pointer (some ⟨c, 0, none⟩), vlog, vl, vt, .string txt] 67
theorem kp_cells {w : World} {kb d : Nat} {C : ConfV} {ve : Value} {c : Nat} {vlog vl vt : Value} {txt : ByteArray} (h : w.heap[kb]? = some (kpC d C ve c vlog vl vt txt)) :
    w.cell? ⟨kb, 0, none⟩ = some (.pointer (some ⟨d, 0, none⟩)) ∧ w.cell? ⟨kb, 1, none⟩ = some (.int .i64 C.closed) ∧ w.cell? ⟨kb, 2, none⟩ = some (.int .i64 C.opn) ∧ w.cell? ⟨kb, 3, none⟩ = some (.int .i64 C.cycle) ∧ w.cell? ⟨kb, 4, none⟩ = some (.int .i64 C.delay) ∧ w.cell? ⟨kb, 5, none⟩ = some ve ∧
    w.cell? ⟨kb, 6, none⟩ = some (.pointer (some ⟨c, 0, none⟩)) ∧ w.cell? ⟨kb, 7, none⟩ = some vlog ∧ w.cell? ⟨kb, 8, none⟩ = some vl ∧ w.cell? ⟨kb, 9, none⟩ = some vt ∧ w.cell? ⟨kb, 10, none⟩ = some (.string txt) ∧ ∀ o, w.frozen? ⟨kb, o, none⟩ = false := by
  unfold kpC at h
  simp [World.cell?, World.frozen?, h]
structure KpB (B : Nat) (sa : Nat → Addr) (w0 : World) (kb c : Nat) (x : KpX) (C : ConfV) (D : DogM) (m : CM) (o : Nat → Nat) (w : World) : Prop where
  se : SentsK B sa w
  bel : Below w0.heap.size w0 w
  bl : B ≤ w0.heap.size
  low : Low o w0 w
  dog : DogAt w x.d D
  mem : CellsAt w c x.rb (some ⟨x.rb, 0, none⟩) x.cap m
  ents : EntsSl (fun b => o b = 8) w x.ve x.X
  xe : C.ents = x.X.map EntX.E
  ok : o kb = 1
  od : o x.d = 2
  oc : o c = 3
  orb : o x.rb = 4
theorem KpB.stp {B : Nat} {sa : Nat → Addr} {w0 : World} {kb c : Nat} {x : KpX} {C : ConfV} {D : DogM} {m : CM} {o o' : Nat → Nat} {N : Nat → Prop} {w w' : World} (h : KpB B sa w0 kb c x C D m o w) (s : Stp o o' N w0 w w')
    (hse : SentsK B sa w') (h8 : ¬ N 8) {D' : DogM} {m' : CM} (hd : DogAt w' x.d D') (hm : CellsAt w' c x.rb (some ⟨x.rb, 0, none⟩) x.cap m') : KpB B sa w0 kb c x C D' m' o' w' :=
  ⟨hse, s.bel, h.bl, s.low, hd, hm, s.ents h.ents h8, h.xe, s.eq h.low h.ok (by decide), s.eq h.low h.od (by decide), s.eq h.low h.oc (by decide), s.eq h.low h.orb (by decide)⟩
theorem KpB.re {B : Nat} {sa : Nat → Addr} {w0 : World} {kb c : Nat} {x : KpX} {C : ConfV} {D : DogM} {m : CM} {o : Nat → Nat} {w : World} (h : KpB B sa w0 kb c x C D m o w) (rg tb : Nat) (lv vl : Value) (ls : List Nat) :
    KpB B sa w0 kb c ⟨x.d, x.rb, x.cap, rg, tb, lv, x.ve, vl, x.X, ls⟩ C D m o w := ⟨h.se, h.bel, h.bl, h.low, h.dog, h.mem, h.ents, h.xe, h.ok, h.od, h.oc, h.orb⟩
theorem KpB.sen {B : Nat} {sa : Nat → Addr} {w0 : World} {kb c : Nat} {x : KpX} {C : ConfV} {D : DogM} {m : CM} {o o' : Nat → Nat} {N : Nat → Prop} {w w' : World} (h : KpB B sa w0 kb c x C D m o w) (s : Stp o o' N w0 w w') (h0 : ¬ N 0) : SentsK B sa w' :=
  h.se.keep s.kp (fun b hN => by
      have : o b ≠ 0 := fun e => by rw [e] at hN; exact h0 hN
      exact Nat.le_trans h.bl (h.low b this).1)
theorem KpB.keep {B : Nat} {sa : Nat → Addr} {w0 : World} {kb c : Nat} {x : KpX} {C : ConfV} {D : DogM} {m : CM} {o o' : Nat → Nat} {N : Nat → Prop} {w w' : World} (h : KpB B sa w0 kb c x C D m o w) (s : Stp o o' N w0 w w')
    (hse : SentsK B sa w') (h8 : ¬ N 8) (h2 : ¬ N 2) (h3 : ¬ N 3) (h4 : ¬ N 4) : KpB B sa w0 kb c x C D m o' w' :=
  h.stp s hse h8 (s.get h.dog h.od h2) (s.cells h.mem h.oc h.orb h3 h4)
structure KpIn (B : Nat) (sa : Nat → Addr) (w0 : World) (kb c : Nat) (txt : ByteArray) (x : KpX) (M : KpM) (o : Nat → Nat) (w : World) : Prop where
  b : KpB B sa w0 kb c x M.C M.D M.m o w
  box : w.heap[kb]? = some (kpC x.d M.C x.ve c (.pointer (some ⟨x.rg, 0, none⟩)) x.vl (.pointer (some ⟨x.tb, 0, none⟩)) txt)
  rbox : w.heap[x.rg]? = some (ringC c x.lv M.dead)
  rrow : SlOf (fun b => o b = 6) w x.lv 4 (M.L.flatMap recCells) M.L.length
  lrow : SlOf (fun b => o b = 9) w x.vl 1 (ptrCs x.ls) x.ls.length
  ll : x.ls.length = x.X.length ∧ M.A.length = x.X.length
  loc : ∀ (j l : Nat) (e : EntX), x.ls[j]? = some l → x.X[j]? = some e → o l = 10 + 2 * j ∧ ∃ a t, (∀ b, a ≤ b → b < t → o b = 11 + 2 * j) ∧ LocIs l a t e w (kpGet M j)
  tot : TotalAt w x.tb M.C.delay M.sn M.st
  org : o x.rg = 5
  ot : o x.tb = 7
section
variable {B : Nat} {sa : Nat → Addr} {w0 : World} {kb c : Nat} {txt : ByteArray} {x : KpX} {M : KpM} {o o' : Nat → Nat} {N : Nat → Prop} {w w' : World}
theorem KpIn.len (h : KpIn B sa w0 kb c txt x M o w) : x.ls.length = M.A.length ∧ M.C.ents.length = M.A.length := by
  have := h.ll
  have h2 := congrArg List.length h.b.xe
  rw [List.length_map] at h2
  omega
theorem Stp.locs (s : Stp o o' N w0 w w') (h : KpIn B sa w0 kb c txt x M o w) {j l : Nat} {e : EntX} (h1 : x.ls[j]? = some l) (h2 : x.X[j]? = some e) (n1 : ¬ N (10 + 2 * j)) (n2 : ¬ N (11 + 2 * j)) :
    o' l = 10 + 2 * j ∧ ∃ a t, (∀ b, a ≤ b → b < t → o' b = 11 + 2 * j) ∧ LocIs l a t e w' (kpGet M j) := by
  obtain ⟨q1, a, t, q2, q3⟩ := h.loc j l e h1 h2
  obtain ⟨a', t', r1, r2⟩ := LocIs.own s q3 q2
  exact ⟨s.eq h.b.low q1 (by omega), a', t', r1, r2 (s.loc q3 q1 q2 n1 n2)⟩
theorem KpIn.far {T : Nat → Prop} (h : KpIn B sa w0 kb c txt x M o w) (k : Keep T w w') (hT : ∀ b, b < w.heap.size → T b → o b = 0 ∧ w0.heap.size ≤ b) : KpIn B sa w0 kb c txt x M o w' := by
  have s : Stp o o (fun n => n = 0) w0 w w' := ⟨k.mono (fun b hb h => (hT b hb h).1), fun _ _ => rfl, fun b hb => ⟨(h.b.low b hb).1, Nat.lt_of_lt_of_le (h.b.low b hb).2 k.size⟩,
    h.b.bel.trans ((k.mono (fun b hb h => (hT b hb h).2) : Keep (fun b => w0.heap.size ≤ b) w w').below h.b.bel.size (fun b hb => hb))⟩
  have hse : SentsK B sa w' := h.b.se.keep (k.mono (fun b hb h => (hT b hb h).2) : Keep (fun b => w0.heap.size ≤ b) w w') (fun b hb => Nat.le_trans h.b.bl hb)
  exact ⟨h.b.keep s hse (by decide) (by decide) (by decide) (by decide), s.get h.box h.b.ok (by decide), s.get h.rbox h.org (by decide), s.sl h.rrow (by decide), s.sl h.lrow (by decide), h.ll,
    fun j l e h1 h2 => s.locs h h1 h2 (by omega) (by omega), s.get h.tot h.ot (by decide), h.org, h.ot⟩
theorem KpIn.below (h : KpIn B sa w0 kb c txt x M o w) (b : Below w.heap.size w w') : KpIn B sa w0 kb c txt x M o w' := h.far (below_keep b) (fun _ _ h => h.elim)
theorem KpIn.dog' (h : KpIn B sa w0 kb c txt x M o w) {D' : DogM} (k : Keep (· = x.d) w w') (hd : DogAt w' x.d D') : KpIn B sa w0 kb c txt x { M with D := D' } o w' := by
  have s : Stp o o (fun n => n = 2) w0 w w' := Stp.same h.b.low h.b.bel (k.mono (fun b hb e => by rw [e]; exact h.b.od)) (by decide)
  exact ⟨h.b.stp s (h.b.sen s (by decide)) (by decide) hd (s.cells h.b.mem h.b.oc h.b.orb (by decide) (by decide)), s.get h.box h.b.ok (by decide), s.get h.rbox h.org (by decide), s.sl h.rrow (by decide), s.sl h.lrow (by decide), h.ll,
    fun j l e h1 h2 => s.locs h h1 h2 (by omega) (by omega), s.get h.tot h.ot (by decide), h.org, h.ot⟩
theorem KpIn.cell' (h : KpIn B sa w0 kb c txt x M o w) {m' : CM} (k : Keep (· = c) w w') (hm : CellsAt w' c x.rb (some ⟨x.rb, 0, none⟩) x.cap m') : KpIn B sa w0 kb c txt x { M with m := m' } o w' := by
  have s : Stp o o (fun n => n = 3) w0 w w' := Stp.same h.b.low h.b.bel (k.mono (fun b hb e => by rw [e]; exact h.b.oc)) (by decide)
  exact ⟨h.b.stp s (h.b.sen s (by decide)) (by decide) (s.get h.b.dog h.b.od (by decide)) hm, s.get h.box h.b.ok (by decide), s.get h.rbox h.org (by decide), s.sl h.rrow (by decide), s.sl h.lrow (by decide), h.ll,
    fun j l e h1 h2 => s.locs h h1 h2 (by omega) (by omega), s.get h.tot h.ot (by decide), h.org, h.ot⟩
theorem KpIn.tot' (h : KpIn B sa w0 kb c txt x M o w) {sn' : Int} {st' : St} (k : Keep (· = x.tb) w w') (ht : TotalAt w' x.tb M.C.delay sn' st') : KpIn B sa w0 kb c txt x { M with sn := sn', st := st' } o w' := by
  have s : Stp o o (fun n => n = 7) w0 w w' := Stp.same h.b.low h.b.bel (k.mono (fun b hb e => by rw [e]; exact h.ot)) (by decide)
  exact ⟨h.b.keep s (h.b.sen s (by decide)) (by decide) (by decide) (by decide) (by decide), s.get h.box h.b.ok (by decide), s.get h.rbox h.org (by decide), s.sl h.rrow (by decide), s.sl h.lrow (by decide), h.ll,
    fun j l e h1 h2 => s.locs h h1 h2 (by omega) (by omega), ht, h.org, h.ot⟩
theorem SlOf.reR {R R' : Nat → Prop} {w : World} {v : Value} {sz n : Nat} {cs : List Value} (h : SlOf R w v sz cs n) (hd : ∀ b, v.ownBlock = some b → 0 < cs.length → R' b) : SlOf R' w v sz cs n := by
  obtain ⟨hl, ao, cap, hv, h1, h2, h3, h4⟩ := h
  refine ⟨hl, ao, cap, hv, h1, h2, h3, fun hp => ?_⟩
  obtain ⟨b, off, ha, hR, hb, hc⟩ := h4 hp
  exact ⟨b, off, ha, hd b (by rw [hv, ha]; rfl) hp, hb, hc⟩
theorem SlOf.inR {R : Nat → Prop} {w : World} {v : Value} {sz n : Nat} {cs : List Value} (h : SlOf R w v sz cs n) {b : Nat} (hb : v.ownBlock = some b) (hp : 0 < cs.length) : R b ∧ b < w.heap.size := by
  obtain ⟨hl, ao, cap, hv, h1, h2, h3, h4⟩ := h
  obtain ⟨b', off, ha, hR, hl, _⟩ := h4 hp
  rw [hv, ha] at hb
  obtain rfl := Option.some.inj hb
  exact ⟨hR, hl⟩
theorem SlOf.many {R : Nat → Prop} {w : World} {v : Value} {sz n : Nat} {cs : List Value} (h : SlOf R w v sz cs n) {S : Nat → Prop} {w' : World} {sz' n' : Nat} {cs' : List Value} (h' : SlOf S w' v sz' cs' n') : n = n' := by
  obtain ⟨_, ao, cap, hv, _⟩ := h
  obtain ⟨_, ao', cap', hv', _⟩ := h'
  rw [hv] at hv'
  injection hv'
theorem KpIn.rst (h : KpIn B sa w0 kb c txt x M o w) : RSt B sa w0 x.rg c x.rb x.cap M.m M.dead M.L x.lv w := by
  have h3 := h.b.oc
  have h4 := h.b.orb
  have h5 := h.org
  refine ⟨⟨h.rbox, h.rrow.mono (fun b hb => ?_)⟩, h.b.mem, h.b.se, h.b.bel, (h.b.low c (by omega)).1, (h.b.low x.rb (by omega)).1, (h.b.low x.rg (by omega)).1, h.b.bl, fun e => ?_, fun e => ?_⟩
  · have hb' : o b = 6 := hb
    refine ⟨fun e => ?_, fun e => ?_, fun e => ?_⟩
    · rw [e] at hb'; omega
    · rw [e] at hb'; omega
    · rw [e] at hb'; omega
  · rw [e] at h5; omega
  · rw [e] at h5; omega
structure Fr (o o' : Nat → Nat) (w w' : World) : Prop where
  kp : Keep (fun b => o b ≠ 0) w w'
  agree : ∀ b, b < w.heap.size → o' b = o b
theorem Fr.refl (o : Nat → Nat) (w : World) : Fr o o w w := ⟨Keep.refl _ _, fun _ _ => rfl⟩
theorem Fr.trans {o1 o2 o3 : Nat → Nat} {w1 w2 w3 : World} (h : Fr o1 o2 w1 w2) (k : Fr o2 o3 w2 w3) : Fr o1 o3 w1 w3 :=
  ⟨h.kp.step k.kp (fun b hb hl => by rw [← h.agree b hl]; exact hb), fun b hb => by rw [k.agree b (Nat.lt_of_lt_of_le hb h.kp.size), h.agree b hb]⟩
theorem Fr.below (o : Nat → Nat) {w w' : World} (b : Below w.heap.size w w') : Fr o o w w' := ⟨(below_keep b).mono (fun _ _ h => h.elim), fun _ _ => rfl⟩
theorem Stp.fr (s : Stp o o' N w0 w w') (h0 : ¬ N 0) : Fr o o' w w' := ⟨s.kp.mono (fun b _ hb e => by rw [e] at hb; exact h0 hb), s.agree⟩
theorem Fr.of {T : Nat → Prop} (k : Keep T w w') (hT : ∀ b, T b → o b ≠ 0) : Fr o o w w' := ⟨k.mono (fun b _ hb => hT b hb), fun _ _ => rfl⟩
theorem KpIn.app (h : KpIn B sa w0 kb c txt x M o w) {m' : CM} {dead' : Bool} {L' : List RecV} {lv' : Value} (h' : RSt B sa w0 x.rg c x.rb x.cap m' dead' L' lv' w')
    (k : Keep (fun b => b = c ∨ b = x.rb ∨ b = x.rg ∨ w.heap.size ≤ b) w w') (hv : lv' = x.lv ∨ NewV w w' lv') :
    ∃ o', KpIn B sa w0 kb c txt { x with lv := lv' } { M with m := m', dead := dead', L := L' } o' w' ∧ Fr o o' w w' := by
  have s : Stp o (ext o w.heap.size w'.heap.size 6) (fun n => n = 3 ∨ n = 4 ∨ n = 5) w0 w w' := Stp.new h.b.low h.b.bel (k.mono (fun b hb e => by
    rcases e with e | e | e | e
    · rw [e]; exact .inl h.b.oc
    · rw [e]; exact .inr (.inl h.b.orb)
    · rw [e]; exact .inr (.inr h.org)
    · omega)) (by decide)
  refine ⟨_, ⟨(h.b.stp s (h.b.sen s (by decide)) (by decide) (s.get h.b.dog h.b.od (by decide)) h'.mem).re _ _ _ _ _, s.get h.box h.b.ok (by decide), h'.ring.box, h'.ring.row.reR (fun b hb hp => ?_), s.sl h.lrow (by decide), h.ll,
    fun j l e h1 h2 => s.locs h h1 h2 (by omega) (by omega), s.get h.tot h.ot (by decide), s.eq h.b.low h.org (by decide), s.eq h.b.low h.ot (by decide)⟩, s.fr (by decide)⟩
  rcases hv with hv | hv
  · have hm := h.rrow.many (hv ▸ h'.ring.row)
    have hp' : 0 < (M.L.flatMap recCells).length := by rw [flat_recs] at hp ⊢; omega
    rw [hv] at hb
    exact s.eq h.b.low (h.rrow.inR hb hp').1 (by decide)
  · have := hv b hb
    exact ext_new this.1 this.2
theorem kpGet_set {M : KpM} {j i : Nat} {a : Option LocM} (hj : j < M.A.length) : kpGet (kpSet M j a) i = if i = j then a else kpGet M i := by
  unfold kpGet kpSet
  rw [List.getD_eq_getElem?_getD, List.getD_eq_getElem?_getD, List.getElem?_set]
  by_cases e : i = j
  · subst e; rw [if_pos rfl, if_pos hj, if_pos rfl]; rfl
  · rw [if_neg (fun h => e h.symm), if_neg e]
theorem getElem?_lt' {α : Type} {l : List α} {j : Nat} {y : α} (h : l[j]? = some y) : j < l.length := (List.getElem?_eq_some_iff.1 h).1
theorem KpIn.ne (h : KpIn B sa w0 kb c txt x M o w) {j i l l' : Nat} {e e' : EntX} (h1 : x.ls[j]? = some l) (h2 : x.X[j]? = some e) (h3 : x.ls[i]? = some l') (h4 : x.X[i]? = some e') (hl : l = l') : i = j := by
  have := (h.loc j l e h1 h2).1
  have := (h.loc i l' e' h3 h4).1
  subst hl
  omega
theorem KpIn.locset (h : KpIn B sa w0 kb c txt x M o w) {j l : Nat} {e : EntX} (h1 : x.ls[j]? = some l) (h2 : x.X[j]? = some e) {a : Option LocM} (s : Stp o o' N w0 w w') (n0 : ¬ N 0) (hN : ∀ n, N n → n = 10 + 2 * j ∨ n = 11 + 2 * j)
    (hl : ∃ p t, (∀ b, p ≤ b → b < t → o' b = 11 + 2 * j) ∧ LocIs l p t e w' a) : KpIn B sa w0 kb c txt x (kpSet M j a) o' w' := by
  have hf : ∀ n, n < 10 → ¬ N n := fun n hn hh => by have := hN n hh; omega
  refine ⟨h.b.keep s (h.b.sen s n0) (hf _ (by decide)) (hf _ (by decide)) (hf _ (by decide)) (hf _ (by decide)), s.get h.box h.b.ok (hf _ (by decide)), s.get h.rbox h.org (hf _ (by decide)), s.sl h.rrow (hf _ (by decide)), s.sl h.lrow (hf _ (by decide)), ?_,
    fun i l' e' h3 h4 => ?_, s.get h.tot h.ot (hf _ (by decide)), s.eq h.b.low h.org (by decide), s.eq h.b.low h.ot (by decide)⟩
  · refine ⟨h.ll.1, ?_⟩
    show (M.A.set j a).length = _
    rw [List.length_set]; exact h.ll.2
  · have hj : j < M.A.length := by have := getElem?_lt' h2; have := h.ll; omega
    rw [kpGet_set hj]
    by_cases e1 : i = j
    · subst e1
      rw [h1] at h3; rw [h2] at h4
      obtain rfl := Option.some.inj h3
      obtain rfl := Option.some.inj h4
      rw [if_pos rfl]
      exact ⟨s.eq h.b.low (h.loc i l e h1 h2).1 (by omega), hl⟩
    · rw [if_neg e1]
      exact s.locs h h3 h4 (fun hh => by have := hN _ hh; omega) (fun hh => by have := hN _ hh; omega)
theorem KpIn.watch (h : KpIn B sa w0 kb c txt x M o w) {j l p t : Nat} {e : EntX} (h1 : x.ls[j]? = some l) (h2 : x.X[j]? = some e) (hw : ∀ b, p ≤ b → b < t → o b = 11 + 2 * j) {a : LocM}
    (k : Keep (fun b => p ≤ b ∧ b < t) w w') (hl : LocAt l p t e.E e.p e.g e.e e.f e.l a w') : KpIn B sa w0 kb c txt x (kpSet M j (some a)) o w' ∧ Fr o o w w' := by
  have s : Stp o o (fun n => n = 11 + 2 * j) w0 w w' := Stp.same h.b.low h.b.bel (k.mono (fun b hb e => hw b e.1 e.2)) (by omega)
  exact ⟨h.locset h1 h2 s (by omega) (fun n hn => .inr hn) ⟨p, t, hw, hl⟩, s.fr (by omega)⟩
theorem KpIn.stop (h : KpIn B sa w0 kb c txt x M o w) {j l : Nat} {e : EntX} (h1 : x.ls[j]? = some l) (h2 : x.X[j]? = some e)
    (k : Keep (· = l) w w') (hl : w'.heap[l]? = some (locC none e.E e.p e.g e.e e.f e.l)) : KpIn B sa w0 kb c txt x (kpSet M j none) o w' ∧ Fr o o w w' := by
  have s : Stp o o (fun n => n = 10 + 2 * j) w0 w w' := Stp.same h.b.low h.b.bel (k.mono (fun b hb e => by rw [e]; exact (h.loc j l _ h1 h2).1)) (by omega)
  exact ⟨h.locset h1 h2 s (by omega) (fun n hn => .inl hn) ⟨0, 0, fun b _ h => by omega, hl⟩, s.fr (by omega)⟩
theorem KpIn.begin (h : KpIn B sa w0 kb c txt x M o w) {j l t : Nat} {e : EntX} (h1 : x.ls[j]? = some l) (h2 : x.X[j]? = some e) {a : LocM}
    (k : Keep (· = l) w w') (hl : LocAt l w.heap.size t e.E e.p e.g e.e e.f e.l a w') : ∃ o', KpIn B sa w0 kb c txt x (kpSet M j (some a)) o' w' ∧ Fr o o' w w' := by
  have s : Stp o (ext o w.heap.size w'.heap.size (11 + 2 * j)) (fun n => n = 10 + 2 * j) w0 w w' := Stp.new h.b.low h.b.bel (k.mono (fun b hb e => by rw [e]; exact (h.loc j l _ h1 h2).1)) (by omega)
  exact ⟨_, h.locset h1 h2 s (by omega) (fun n hn => .inl hn) ⟨w.heap.size, t, fun b h3 h4 => ext_new h3 (Nat.lt_of_lt_of_le h4 hl.le), hl⟩, s.fr (by omega)⟩
end
end Go.Proofs.YtikehilbmldadaaGreatDoor
namespace Go.Proofs.YtikehilbmldadaaGreatDoor
open Go.RowKit
set_option linter.unusedVariables false
section
variable {B : Nat} {sa : Nat → Addr} {w0 : World} {kb c : Nat} {txt : ByteArray} {x : KpX} {M : KpM} {o : Nat → Nat} {w : World}
theorem kpOn_any (h : KpIn B sa w0 kb c txt x M o w) : Calls Tryz.prog 83 #[.pointer (some ⟨kb, 0, none⟩)] w fun e w' => e = .returned (errv sa (kpOn M)) ∧ w = w' := by
  obtain ⟨k0, k1, k2, k3, k4, k5, k6, k7, k8, k9, k10, kf⟩ := kp_cells h.box
  obtain ⟨_, _, _, _, _, _, _, s7, _, _, s10⟩ := h.b.se.all
  have HP := Lib.hid (cellsPower_any c x.rb _ x.cap M.m w h.b.mem)
  have HR := Lib.hid (dogReset_any x.d M.D w h.b.dog)
  clear h k1 k2 k3 k4 k5 k7 k8 k9 k10 kf
  unfold kpOn
  cases hx : M.m.off
  · rw [hx] at HP
    cases hr : M.D.reset
    · rw [hr] at HR
      go_enter Tryz.func83, Tryz.ntmps83
      go_wp2_with fail
      refine HP.out.mono ?_
      rintro e w1 ⟨rfl, rfl⟩
      go_wp2_with fail
      refine HR.out.mono ?_
      rintro e w1 ⟨rfl, rfl⟩
      go_wp2_with fail
      go_ret
      exact ⟨rfl, rfl⟩
    · rw [hr] at HR
      go_enter Tryz.func83, Tryz.ntmps83
      go_wp2_with fail
      refine HP.out.mono ?_
      rintro e w1 ⟨rfl, rfl⟩
      go_wp2_with fail
      refine HR.out.mono ?_
      rintro e w1 ⟨rfl, rfl⟩
      go_wp2_with fail
      go_ret
      exact ⟨rfl, rfl⟩
  · rw [hx] at HP
    go_enter Tryz.func83, Tryz.ntmps83
    go_wp2_with fail
    refine HP.out.mono ?_
    rintro e w1 ⟨rfl, rfl⟩
    go_wp2_with fail
    go_ret
    exact ⟨rfl, rfl⟩
theorem KpIn.row (h : KpIn B sa w0 kb c txt x M o w) : ∃ ao cap, x.vl = .slice ao M.A.length cap ∧ M.A.length ≤ cap ∧ cap ≤ maxLen ∧
    ∀ j, j < M.A.length → ∃ b off l e, ao = some ⟨b, off, none⟩ ∧ w.cell? ⟨b, off + j, none⟩ = some (.pointer (some ⟨l, 0, none⟩)) ∧ x.ls[j]? = some l ∧ x.X[j]? = some e ∧ kpEnt M j = e.E := by
  have hl := h.len
  have hx := h.ll
  have he := h.b.xe
  obtain ⟨h0, ao, cap, hv, h1, h2, h3, h4⟩ := h.lrow
  refine ⟨ao, cap, by rw [hv, hl.1], by omega, h2, fun j hj => ?_⟩
  have hp : (ptrCs x.ls).length = x.ls.length := by simp [ptrCs]
  obtain ⟨b, off, ha, _, _, hc⟩ := h4 (by omega)
  have g1 : x.ls[j]? = some x.ls[j] := List.getElem?_eq_getElem (by omega)
  have g2 : x.X[j]? = some (x.X[j]'(by omega)) := List.getElem?_eq_getElem (by omega)
  refine ⟨b, off, x.ls[j], x.X[j]'(by omega), ha, hc j _ ?_, g1, g2, ?_⟩
  · unfold ptrCs
    rw [List.getElem?_map, g1]; rfl
  · unfold kpEnt
    rw [he, List.getD_eq_getElem?_getD, List.getElem?_map, g2]; rfl
theorem kpEntity_bad (h : KpIn B sa w0 kb c txt x M o w) (i : Int) (hi : kpAsk M i ≠ 0) :
    Calls Tryz.prog 48 #[.pointer (some ⟨kb, 0, none⟩), .int .i64 i] w fun e w' => e = .returned (.tuple #[.pointer none, errv sa (kpAsk M i)]) ∧ Below w.heap.size w w' := by
  obtain ⟨k0, k1, k2, k3, k4, k5, k6, k7, k8, k9, k10, kf⟩ := kp_cells h.box
  obtain ⟨_, _, _, _, s4, _⟩ := h.b.se.all
  obtain ⟨ao, cap, hv, hc1, hc2, _⟩ := h.row
  rw [hv] at k8
  have HO := Lib.hid (kpOn_any h)
  clear h hv k0 k1 k2 k3 k4 k5 k6 k7 k9 k10 kf
  unfold kpAsk at hi ⊢
  by_cases h0 : kpOn M = 0
  · rw [h0] at HO
    rw [h0, if_neg (by decide)] at hi ⊢
    by_cases hb : i < 0 ∨ (M.A.length : Int) ≤ i
    · rw [if_pos hb]
      clear hi h0
      by_cases hn : i < 0
      · clear hb
        go_enter Tryz.func48, Tryz.ntmps48
        go_wp2_with fail
        refine HO.out.mono ?_
        rintro e w1 ⟨rfl, rfl⟩
        rw [errv_zero]
        go_wp2_with fail
        go_quiet (fail)
        go_wp2_with fail
        go_ret2
        exact ⟨rfl, below_drewN' _ (Below.refl _ _)⟩
      · have hb' : (M.A.length : Int) ≤ i := by omega
        clear hb
        go_enter Tryz.func48, Tryz.ntmps48
        go_wp2_with fail
        refine HO.out.mono ?_
        rintro e w1 ⟨rfl, rfl⟩
        rw [errv_zero]
        go_wp2_with fail
        go_quiet (fail)
        go_wp2_with fail
        go_ret2
        exact ⟨rfl, below_drewN' _ (Below.refl _ _)⟩
    · rw [if_neg hb] at hi
      exact absurd rfl hi
  · rw [if_pos h0]
    obtain ⟨q, hq⟩ : ∃ q, kpOn M = q + 1 := ⟨kpOn M - 1, by omega⟩
    rw [hq] at HO ⊢
    clear hi h0
    go_enter Tryz.func48, Tryz.ntmps48
    go_wp2_with fail
    refine HO.out.mono ?_
    rintro e w1 ⟨rfl, rfl⟩
    rw [errv_succ]
    go_wp2_with fail
    go_ret2
    exact ⟨rfl, Below.refl _ _⟩
theorem kpEntity_ok (h : KpIn B sa w0 kb c txt x M o w) (i : Int) (hi : ¬ kpAsk M i ≠ 0) :
    Calls Tryz.prog 48 #[.pointer (some ⟨kb, 0, none⟩), .int .i64 i] w fun e w' => ∃ l y, e = .returned (.tuple #[.pointer (some ⟨l, 0, none⟩), .nilIface]) ∧ x.ls[i.toNat]? = some l ∧ x.X[i.toNat]? = some y ∧ kpEnt M i.toNat = y.E ∧ w = w' := by
  obtain ⟨k0, k1, k2, k3, k4, k5, k6, k7, k8, k9, k10, kf⟩ := kp_cells h.box
  obtain ⟨ao, cap, hv, hc1, hc2, hr⟩ := h.row
  rw [hv] at k8
  have HO := Lib.hid (kpOn_any h)
  unfold kpAsk at hi
  by_cases h0 : kpOn M = 0
  · rw [h0] at HO
    rw [h0, if_neg (by decide)] at hi
    by_cases hb : i < 0 ∨ (M.A.length : Int) ≤ i
    · rw [if_pos hb] at hi
      exact absurd (by decide) hi
    · obtain ⟨n, rfl⟩ := Int.eq_ofNat_of_zero_le (show 0 ≤ i by omega)
      have hn : n < M.A.length := by omega
      obtain ⟨b, off, l, y, rfl, q1, q2, q3, q4⟩ := hr n hn
      have Q := Lib.hid (show x.ls[((n : Int)).toNat]? = some l ∧ x.X[((n : Int)).toNat]? = some y ∧ kpEnt M ((n : Int)).toNat = y.E by rw [Int.toNat_natCast]; exact ⟨q2, q3, q4⟩)
      have hn2 : (n : Int) < M.A.length := by omega
      clear h hv hb hi h0 q2 q3 q4 hr k0 k1 k2 k3 k4 k5 k6 k7 k9 k10 kf
      go_enter Tryz.func48, Tryz.ntmps48
      go_wp2_with fail
      refine HO.out.mono ?_
      rintro e w1 ⟨rfl, rfl⟩
      rw [errv_zero]
      go_wp2_with fail
      go_ret2
      exact ⟨l, y, rfl, Q.out.1, Q.out.2.1, Q.out.2.2, rfl⟩
  · rw [if_pos h0] at hi
    exact absurd h0 hi
end
end Go.Proofs.YtikehilbmldadaaGreatDoor
namespace Go.Proofs.YtikehilbmldadaaGreatDoor
open Go.RowKit
set_option linter.unusedVariables false
section
variable {B : Nat} {sa : Nat → Addr} {w0 : World} {kb c : Nat} {txt : ByteArray} {x : KpX} {M : KpM} {o : Nat → Nat} {w : World} {T : Nat}
def KpPost (B : Nat) (sa : Nat → Addr) (w0 : World) (kb c : Nat) (txt : ByteArray) (r : Nat × KpM) (o : Nat → Nat) (w : World) (e : Ending) (w' : World) : Prop :=
  e = .returned (errv sa r.1) ∧ ∃ x' o', KpIn B sa w0 kb c txt x' r.2 o' w' ∧ Fr o o' w w'
theorem KpIn.light (h : KpIn B sa w0 kb c txt x M o w) (hO : KpOk M T) {j : Nat} {y : EntX} (hy : x.X[j]? = some y) : Light y.E ∧ EntSl (fun b => o b = 8) w y.E y.p y.g y.e y.f y.l := by
  have hm := List.mem_of_getElem? hy
  exact ⟨hO.small _ (by rw [h.b.xe]; exact List.mem_map_of_mem hm), h.b.ents.each y hm⟩
theorem KpIn.in8 (h : KpIn B sa w0 kb c txt x M o w) : ∀ b, (fun b => o b = 8) b → b < w.heap.size := fun b hb => (h.b.low b (by have : o b = 8 := hb; omega)).2
theorem kpBegin_any (h : KpIn B sa w0 kb c txt x M o w) (hO : KpOk M T) (i : Int) :
    Calls Tryz.prog 20 #[.pointer (some ⟨kb, 0, none⟩), .int .i64 i] w (KpPost B sa w0 kb c txt (kpBegin M i) o w) := by
  unfold KpPost
  have H := Lib.hid h
  have HOk := Lib.hid hO
  by_cases hi : kpAsk M i ≠ 0
  · have HE := Lib.hid (kpEntity_bad h i hi)
    unfold kpBegin
    rw [if_pos hi]
    obtain ⟨q, hq⟩ : ∃ q, kpAsk M i = q + 1 := ⟨kpAsk M i - 1, by omega⟩
    rw [hq] at HE ⊢
    clear h hO hi hq
    go_enter Tryz.func20, Tryz.ntmps20
    go_wp2_with fail
    refine HE.out.mono ?_
    rintro e w1 ⟨rfl, b1⟩
    rw [errv_succ]
    go_wp2_with fail
    go_ret
    exact ⟨rfl, x, o, H.out.below b1, Fr.below o b1⟩
  · have HE := Lib.hid (kpEntity_ok h i hi)
    unfold kpBegin
    rw [if_neg hi]
    have s9 := h.b.se.gl 9 (by decide)
    clear h hO hi
    cases ha : kpGet M i.toNat with
    | none =>
      have HA := Lib.hid ha
      clear ha
      go_enter Tryz.func20, Tryz.ntmps20
      go_wp2_with fail
      refine HE.out.mono ?_
      rintro e w1 ⟨l, y, rfl, q1, q2, q3, rfl⟩
      obtain ⟨p1, a, t, p2, p3⟩ := H.out.loc _ l y q1 q2
      rw [HA.out] at p3
      obtain ⟨hL, hS⟩ := H.out.light HOk.out q2
      have HB := Lib.hid (localBegin_any _ l y.E y.p y.g y.e y.f y.l w p3 hS H.out.in8 hL)
      have Q := Lib.hid (And.intro q1 (And.intro q2 q3))
      clear p1 p2 p3 hL hS q1 q2 q3
      go_wp2_with fail
      refine HB.out.mono ?_
      rintro e w2 ⟨rfl, t', r1, r2⟩
      obtain ⟨o', z1, z2⟩ := H.out.begin Q.out.1 Q.out.2.1 r2 r1
      rw [← Q.out.2.2] at z1
      have Z := Lib.hid (And.intro z1 z2)
      clear r1 r2 z1 z2
      go_wp2_with fail
      go_ret
      exact ⟨rfl, x, o', Z.out.1, Z.out.2⟩
    | some m =>
      have HA := Lib.hid ha
      clear ha
      go_enter Tryz.func20, Tryz.ntmps20
      go_wp2_with fail
      refine HE.out.mono ?_
      rintro e w1 ⟨l, y, rfl, q1, q2, q3, rfl⟩
      obtain ⟨p1, a, t, p2, p3⟩ := H.out.loc _ l y q1 q2
      rw [HA.out] at p3
      have HB := Lib.hid (localBegin_held l a t y.E y.p y.g y.e y.f y.l _ m w p3 s9)
      clear p1 p2 p3 q1 q2 q3
      go_wp2_with fail
      refine HB.out.mono ?_
      rintro e w2 ⟨rfl, rfl⟩
      go_wp2_with fail
      go_ret
      exact ⟨rfl, x, o, H.out, Fr.refl _ _⟩
theorem kpStop_any (h : KpIn B sa w0 kb c txt x M o w) (hO : KpOk M T) (i : Int) :
    Calls Tryz.prog 21 #[.pointer (some ⟨kb, 0, none⟩), .int .i64 i] w (KpPost B sa w0 kb c txt (kpStop M i) o w) := by
  unfold KpPost
  have H := Lib.hid h
  have HOk := Lib.hid hO
  by_cases hi : kpAsk M i ≠ 0
  · have HE := Lib.hid (kpEntity_bad h i hi)
    unfold kpStop
    rw [if_pos hi]
    obtain ⟨q, hq⟩ : ∃ q, kpAsk M i = q + 1 := ⟨kpAsk M i - 1, by omega⟩
    rw [hq] at HE ⊢
    clear h hO hi hq
    go_enter Tryz.func21, Tryz.ntmps21
    go_wp2_with fail
    refine HE.out.mono ?_
    rintro e w1 ⟨rfl, b1⟩
    rw [errv_succ]
    go_wp2_with fail
    go_ret
    exact ⟨rfl, x, o, H.out.below b1, Fr.below o b1⟩
  · have HE := Lib.hid (kpEntity_ok h i hi)
    unfold kpStop
    rw [if_neg hi]
    have s8 := h.b.se.gl 8 (by decide)
    clear h hO hi
    cases ha : kpGet M i.toNat with
    | none =>
      have HA := Lib.hid ha
      clear ha
      go_enter Tryz.func21, Tryz.ntmps21
      go_wp2_with fail
      refine HE.out.mono ?_
      rintro e w1 ⟨l, y, rfl, q1, q2, q3, rfl⟩
      obtain ⟨p1, a, t, p2, p3⟩ := H.out.loc _ l y q1 q2
      rw [HA.out] at p3
      have HB := Lib.hid (localStop_idle l y.E y.p y.g y.e y.f y.l _ w p3 s8)
      clear p1 p2 p3 q1 q2 q3
      go_wp2_with fail
      refine HB.out.mono ?_
      rintro e w2 ⟨rfl, rfl⟩
      go_wp2_with fail
      go_ret
      exact ⟨rfl, x, o, H.out, Fr.refl _ _⟩
    | some m =>
      have HA := Lib.hid ha
      clear ha
      go_enter Tryz.func21, Tryz.ntmps21
      go_wp2_with fail
      refine HE.out.mono ?_
      rintro e w1 ⟨l, y, rfl, q1, q2, q3, rfl⟩
      obtain ⟨p1, a, t, p2, p3⟩ := H.out.loc _ l y q1 q2
      rw [HA.out] at p3
      have HB := Lib.hid (localStop_any l a t y.E y.p y.g y.e y.f y.l m w p3)
      have Q := Lib.hid (And.intro q1 q2)
      clear p1 p2 p3 q1 q2 q3
      go_wp2_with fail
      refine HB.out.mono ?_
      rintro e w2 ⟨rfl, r1, r2⟩
      have Z := Lib.hid (H.out.stop Q.out.1 Q.out.2 r2 r1)
      clear r1 r2
      go_wp2_with fail
      go_ret
      exact ⟨rfl, x, o, Z.out.1, Z.out.2⟩
theorem kpReport_any (h : KpIn B sa w0 kb c txt x M o w) (hO : KpOk M T) (i p : Int) :
    Calls Tryz.prog 22 #[.pointer (some ⟨kb, 0, none⟩), .int .i64 i, .int .i64 p] w (KpPost B sa w0 kb c txt (kpReport M i p) o w) := by
  unfold KpPost
  have H := Lib.hid h
  have HOk := Lib.hid hO
  obtain ⟨k0, k1, k2, k3, k4, k5, k6, k7, k8, k9, k10, kf⟩ := kp_cells h.box
  clear k1 k2 k3 k4 k5 k6 k7 k8 k9 k10 kf
  by_cases hi : kpAsk M i ≠ 0
  · have HE := Lib.hid (kpEntity_bad h i hi)
    unfold kpReport
    rw [if_pos hi]
    obtain ⟨q, hq⟩ : ∃ q, kpAsk M i = q + 1 := ⟨kpAsk M i - 1, by omega⟩
    rw [hq] at HE ⊢
    clear h hO hi hq k0
    go_enter Tryz.func22, Tryz.ntmps22
    go_wp2_with fail
    refine HE.out.mono ?_
    rintro e w1 ⟨rfl, b1⟩
    rw [errv_succ]
    go_wp2_with fail
    go_ret
    exact ⟨rfl, x, o, H.out.below b1, Fr.below o b1⟩
  · have HE := Lib.hid (kpEntity_ok h i hi)
    have HN := Lib.hid (dogNow_any x.d M.D w h.b.dog)
    unfold kpReport
    rw [if_neg hi]
    have s8 := h.b.se.gl 8 (by decide)
    have s4 := h.b.se.gl 4 (by decide)
    clear h hO hi
    cases ha : kpGet M i.toNat with
    | none =>
      have HA := Lib.hid ha
      clear ha
      go_enter Tryz.func22, Tryz.ntmps22
      go_wp2_with fail
      refine HE.out.mono ?_
      rintro e w1 ⟨l, y, rfl, q1, q2, q3, rfl⟩
      obtain ⟨p1, a, t, p2, p3⟩ := H.out.loc _ l y q1 q2
      rw [HA.out] at p3
      have HB := Lib.hid (localReport_idle l y.E y.p y.g y.e y.f y.l _ p M.D.now w p3 s8)
      clear p1 p2 p3 q1 q2 q3
      go_wp2_with fail
      refine HN.out.mono ?_
      rintro e w2 ⟨rfl, rfl⟩
      go_wp2_with fail
      refine HB.out.mono ?_
      rintro e w2 ⟨rfl, rfl⟩
      go_wp2_with fail
      go_ret
      exact ⟨rfl, x, o, H.out, Fr.refl _ _⟩
    | some m =>
      have HA := Lib.hid ha
      clear ha
      by_cases hp : p < 0 ∨ ((kpEnt M i.toNat).points.length : Int) ≤ p
      · have HP := Lib.hid hp
        simp only [hp, if_true]
        clear hp
        go_enter Tryz.func22, Tryz.ntmps22
        go_wp2_with fail
        refine HE.out.mono ?_
        rintro e w1 ⟨l, y, rfl, q1, q2, q3, rfl⟩
        obtain ⟨p1, a, t, p2, p3⟩ := H.out.loc _ l y q1 q2
        rw [HA.out] at p3
        have p4 : LocAt l a t y.E y.p y.g y.e y.f y.l m w := p3
        obtain ⟨pa, pc, hpv⟩ := (H.out.b.ents.each y (List.mem_of_getElem? q2)).p.val
        rw [hpv] at p4
        have HPp := HP.out
        rw [q3] at HPp
        have HB := Lib.hid (localReport_out l a t y.E pa pc y.g y.e y.f y.l _ m p M.D.now w p4 HPp s4)
        clear p1 p2 p3 p4 q1 q2 q3 hpv HPp
        go_wp2_with fail
        refine HN.out.mono ?_
        rintro e w2 ⟨rfl, rfl⟩
        go_wp2_with fail
        refine HB.out.mono ?_
        rintro e w2 ⟨rfl, rfl⟩
        go_wp2_with fail
        go_ret
        exact ⟨rfl, x, o, H.out, Fr.refl _ _⟩
      · have HP := Lib.hid hp
        simp only [hp, if_false]
        clear hp
        go_enter Tryz.func22, Tryz.ntmps22
        go_wp2_with fail
        refine HE.out.mono ?_
        rintro e w1 ⟨l, y, rfl, q1, q2, q3, rfl⟩
        obtain ⟨p1, a, t, p2, p3⟩ := H.out.loc _ l y q1 q2
        rw [HA.out] at p3
        have p4 : LocAt l a t y.E y.p y.g y.e y.f y.l m w := p3
        obtain ⟨pa, pc, hpv⟩ := (H.out.b.ents.each y (List.mem_of_getElem? q2)).p.val
        rw [hpv] at p4
        have HPp := HP.out
        rw [q3] at HPp
        have hd := HOk.out.dog
        have HB := Lib.hid (localReport_in l a t y.E pa pc y.g y.e y.f y.l m p M.D.now w p4 (by omega) (by omega) (by have := hd.l0; have := hd.ln; omega) hd.n1)
        have Q := Lib.hid (And.intro q1 (And.intro q2 (And.intro q3 (And.intro p2 hpv))))
        clear p1 p2 p3 p4 q1 q2 q3 hpv HPp hd
        go_wp2_with fail
        refine HN.out.mono ?_
        rintro e w2 ⟨rfl, rfl⟩
        go_wp2_with fail
        refine HB.out.mono ?_
        rintro e w2 ⟨rfl, r1, r2⟩
        rw [← Q.out.2.2.2.2] at r1
        have z := H.out.watch Q.out.1 Q.out.2.1 Q.out.2.2.2.1 r2 r1
        rw [← Q.out.2.2.1] at z
        have Z := Lib.hid z
        clear r1 r2 z
        go_wp2_with fail
        go_ret
        exact ⟨rfl, x, o, Z.out.1, Z.out.2⟩
end
end Go.Proofs.YtikehilbmldadaaGreatDoor
namespace Go.Proofs.YtikehilbmldadaaGreatDoor
open Go.RowKit
set_option linter.unusedVariables false
section
variable {B : Nat} {sa : Nat → Addr} {w0 : World} {kb c : Nat} {txt : ByteArray} {x : KpX} {M : KpM} {o : Nat → Nat} {w : World} {T : Nat}
theorem kpState_any (h : KpIn B sa w0 kb c txt x M o w) : Calls Tryz.prog 24 #[.pointer (some ⟨kb, 0, none⟩)] w fun e w' => e = .returned (.string (kpState M)) ∧ w = w' := by
  obtain ⟨k0, k1, k2, k3, k4, k5, k6, k7, k8, k9, k10, kf⟩ := kp_cells h.box
  have HP := Lib.hid (cellsPower_any c x.rb _ x.cap M.m w h.b.mem)
  have HR := Lib.hid (dogReset_any x.d M.D w h.b.dog)
  clear h k1 k2 k3 k4 k5 k7 k8 k9 k10 kf
  unfold kpState
  cases hx : M.m.off
  · rw [hx] at HP
    cases hr : M.D.reset
    · rw [hr] at HR
      go_enter Tryz.func24, Tryz.ntmps24
      go_wp2_with fail
      refine HP.out.mono ?_
      rintro e w1 ⟨rfl, rfl⟩
      go_wp2_with fail
      refine HR.out.mono ?_
      rintro e w1 ⟨rfl, rfl⟩
      go_wp2_with fail
      go_ret
      exact ⟨rfl, rfl⟩
    · rw [hr] at HR
      go_enter Tryz.func24, Tryz.ntmps24
      go_wp2_with fail
      refine HP.out.mono ?_
      rintro e w1 ⟨rfl, rfl⟩
      go_wp2_with fail
      refine HR.out.mono ?_
      rintro e w1 ⟨rfl, rfl⟩
      go_wp2_with fail
      go_ret
      exact ⟨rfl, rfl⟩
  · rw [hx] at HP
    go_enter Tryz.func24, Tryz.ntmps24
    go_wp2_with fail
    refine HP.out.mono ?_
    rintro e w1 ⟨rfl, rfl⟩
    go_wp2_with fail
    go_ret
    exact ⟨rfl, rfl⟩
theorem kpTotal_any (h : KpIn B sa w0 kb c txt x M o w) : Calls Tryz.prog 25 #[.pointer (some ⟨kb, 0, none⟩)] w fun e w' => e = .returned (.string M.st.str) ∧ w = w' := by
  obtain ⟨k0, k1, k2, k3, k4, k5, k6, k7, k8, k9, k10, kf⟩ := kp_cells h.box
  have HP := Lib.hid (totalStatus_any x.tb _ _ _ w h.tot)
  clear h k0 k1 k2 k3 k4 k5 k6 k7 k8 k10 kf
  go_enter Tryz.func25, Tryz.ntmps25
  go_wp2_with fail
  refine HP.out.mono ?_
  rintro e w1 ⟨rfl, rfl⟩
  go_wp2_with fail
  go_ret
  exact ⟨rfl, rfl⟩
theorem kpText_any (h : KpIn B sa w0 kb c txt x M o w) : Calls Tryz.prog 142 #[.pointer (some ⟨kb, 0, none⟩)] w fun e w' => e = .returned (.string txt) ∧ w = w' := by
  obtain ⟨k0, k1, k2, k3, k4, k5, k6, k7, k8, k9, k10, kf⟩ := kp_cells h.box
  clear h k0 k1 k2 k3 k4 k5 k6 k7 k8 k9 kf
  go_enter Tryz.func142, Tryz.ntmps142
  go_wp2_with fail
  go_ret
  exact ⟨rfl, rfl⟩
theorem kpLog_any (h : KpIn B sa w0 kb c txt x M o w) (hO : KpOk M T) : Calls Tryz.prog 28 #[.pointer (some ⟨kb, 0, none⟩)] w fun e w' => ∃ v, e = .returned v ∧ SlOf (fun b => w.heap.size ≤ b) w' v 4 (M.L.flatMap recCells) M.L.length ∧ Below w.heap.size w w' := by
  obtain ⟨k0, k1, k2, k3, k4, k5, k6, k7, k8, k9, k10, kf⟩ := kp_cells h.box
  have HP := Lib.hid (ringRecords_any w x.rg c x.lv M.dead M.L _ ⟨h.rbox, h.rrow⟩ (by have := hO.l8; omega))
  clear h k0 k1 k2 k3 k4 k5 k6 k8 k9 k10 kf
  go_enter Tryz.func28, Tryz.ntmps28
  go_wp2_with fail
  refine HP.out.mono ?_
  rintro e w1 ⟨v, rfl, h1, h2⟩
  have H1 := Lib.hid h1
  have H2 := Lib.hid h2
  obtain ⟨ao, cap, rfl⟩ := h1.val
  clear h1 h2
  go_wp2_with fail
  go_ret
  exact ⟨_, rfl, H1.out, H2.out⟩
theorem kpCause_any (h : KpIn B sa w0 kb c txt x M o w) (hO : KpOk M T) : Calls Tryz.prog 136 #[.pointer (some ⟨kb, 0, none⟩)] w fun e w' => e = .returned (.tuple #[recAgg (lastZ M.L), .bool (!M.L.isEmpty)]) ∧ Below w.heap.size w w' := by
  have hba : Below w.heap.size w (w.alloc (recC ⟨0, 0, 0, 0⟩)) := (Below.refl _ _).alloc (Nat.le_refl _) _
  have hna := get_alloc_new w (recC ⟨0, 0, 0, 0⟩)
  have HBA := Lib.hid hba
  have HNA := Lib.hid hna
  have H := Lib.hid (h.below hba)
  have HL8 := Lib.hid hO.l8.1
  clear h hba hna
  unfold recC at HBA HNA H
  go_enter Tryz.func136, Tryz.ntmps136
  go_upto_region 1 with fail
  generalize w.alloc _ = w1 at HBA HNA H ⊢
  obtain ⟨k0, k1, k2, k3, k4, k5, k6, k7, k8, k9, k10, kf⟩ := kp_cells H.out.box
  have HP := Lib.hid (ringLast_any w1 x.rg c x.lv M.dead M.L _ ⟨H.out.rbox, H.out.rrow.here⟩ (fun b h => h) (by have := HL8.out; omega))
  clear k0 k1 k2 k3 k4 k5 k6 k8 k9 k10 kf
  unfold recAgg at HP
  go_wp2_with fail
  refine HP.out.mono ?_
  rintro e w2 ⟨rfl, b2⟩
  have hn2 := below_get b2 HNA.out (lt_of_get HNA.out)
  obtain ⟨z0, z1, z2, z3⟩ := four_cells hn2
  have zf : ∀ o, w2.frozen? ⟨w.heap.size, o, none⟩ = false := fun o => frozen_of hn2
  have HB2 := Lib.hid (HBA.out.trans (b2.mono HBA.out.size))
  clear k7 hn2 b2
  go_wp2_with fail
  refine bodyPost_ret (v := .tuple #[recAgg (lastZ M.L), .bool (!M.L.isEmpty)]) (by simp [recAgg, results, Tryz.results136, go_sem, z0, z1, z2, z3, World.cell?_setCell_same, World.cell?_setCell_other]) rfl ?_
  exact ⟨rfl, below_set4 HB2.out⟩
end
end Go.Proofs.YtikehilbmldadaaGreatDoor
