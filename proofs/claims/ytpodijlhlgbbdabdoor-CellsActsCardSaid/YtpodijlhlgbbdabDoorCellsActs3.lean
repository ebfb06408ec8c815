/- CellsActs: any acts on any cells: the whole. -/
import Derived.Test.YtpodijlhlgbbdabDoorCellsActs2
namespace Go.Proofs.YtpodijlhlgbbdabDoor
open Go.RowKit
set_option linter.unusedVariables false

set_option maxRecDepth 100000 in
set_option maxHeartbeats 4000000 in
theorem ca_good_big (B : Nat) (sa : Nat → Addr) (s : ByteArray) (size : Int) (L : List Act1V) (v : Value) (w : World) (hS : Sents B sa w) (h : SlOf (· < w.heap.size) w v 4 (L.flatMap act1Cells) L.length) (hL : ∀ a ∈ L, Act1Ok a) (hb : bigB s L.length) (hz : ¬ size < 0) (hz2 : ¬ 4096 < size) (h200 : 200 < s.size) :
    Calls Tryd.prog 8 #[.string s, .int .i64 size, v] w fun e w' => e = .returned (.bool true) ∧ Below w.heap.size w w' := by
  obtain ⟨ao, cap, rfl⟩ := h.val
  have HL := Lib.hid h
  have HLL := Lib.hid hL
  have HS := Lib.hid hS
  have hBt := hS.top
  have HB := Lib.hid hb
  have t1 : ¬ 60 < L.length := by have := hb.2; omega
  have t2 : ¬ 6000 < s.size := by have := hb.1; omega
  clear h hS hL hb
  go_enter Tryd.func8, Tryd.ntmps8
  go_wp2_with fail
  refine (stays_any B sa w HS.out).mono ?_
  rintro e w1 ⟨rfl, b1⟩
  have H1 := Lib.hid (SB.below ⟨HS.out, Below.refl _ _, hBt⟩ b1)
  clear b1 hBt HS
  have h4 : ¬ s.size ≤ 4096 := by have := HB.out.1; omega
  obtain ⟨n, rfl⟩ : ∃ n : Nat, size = n := ⟨size.toNat, by omega⟩
  go_wp2_with fail
  refine (ck_new n w _ H1.out.se H1.out.bel H1.out.top (by omega)).mono ?_
  rintro e w2 ⟨c, rb, rfl, h2⟩
  have C2 := Lib.hid h2
  clear h2 H1
  have hBytes : Hid (∀ W, CK B sa w c rb (some ⟨rb, 0, none⟩) n ⟨List.replicate n 0, false, -1, 0⟩ W → Calls Tryd.prog 38 #[.pointer (some ⟨c, 0, none⟩)] W (fun e w' => e = .returned (.string (strOf (zeros n))) ∧ W = w')) := (show ∀ W, CK B sa w c rb (some ⟨rb, 0, none⟩) n ⟨List.replicate n 0, false, -1, 0⟩ W → Calls Tryd.prog 38 #[.pointer (some ⟨c, 0, none⟩)] W (fun e w' => e = .returned (.string (strOf (zeros n))) ∧ W = w') from fun W hW => cellsBytes_any c rb _ n _ W hW.mem)
  have hmk := run_make_row' (P := Tryd.prog) 54 5 (.int .u8 0) 1 Tryd.underlying54 Tryd.infoByte rfl .i64 .i64 n (by omega) (by omega)
  have hcv := conv1 n w2
  unfold madeO at hcv
  go_upto_region 8 with fail
  go_cut [73] (fun s73 wx => s73 = .bool false ∧ Hid (CK B sa w c rb (some ⟨rb, 0, none⟩) n ⟨List.replicate n 0, false, -1, 0⟩ wx))
  case first =>
    go_region_held (fun w' => CK B sa w c rb (some ⟨rb, 0, none⟩) n ⟨List.replicate n 0, false, -1, 0⟩ w')
      (first | exact C2.out | exact C2.out.drew | exact ck_alloc C2.out _ | exact (ck_alloc C2.out _).drew | exact ck_alloc C2.out.drew _ | exact (ck_alloc C2.out.drew _).drew | exact (ck_alloc C2.out.drew _).drew.drew | exact (ck_alloc C2.out _).drew.drew | assumption)
      (first | (go_at_call 38; refine (hBytes.out _ (by first | exact C2.out | exact C2.out.drew | exact ck_alloc C2.out _ | exact (ck_alloc C2.out _).drew | exact ck_alloc C2.out.drew _ | exact (ck_alloc C2.out.drew _).drew | exact (ck_alloc C2.out.drew _).drew.drew | exact (ck_alloc C2.out _).drew.drew | assumption)).mono ?_; rintro e w' ⟨rfl, rfl⟩))
    all_goals
      go_wp2_with fail
      go_meet
      exact ⟨rfl, (by first | exact C2.out | exact C2.out.drew | exact ck_alloc C2.out _ | exact (ck_alloc C2.out _).drew | exact ck_alloc C2.out.drew _ | exact (ck_alloc C2.out.drew _).drew | exact (ck_alloc C2.out.drew _).drew.drew | exact (ck_alloc C2.out _).drew.drew | assumption)⟩
  case rest =>
  have hB9 := C2.out.lay.2.2
  clear C2 hcv hmk hBytes
  obtain ⟨rfl, C5⟩ := hcut
  have H3 : Hid (SB B sa w wc) := (show SB B sa w wc from ⟨C5.out.se, C5.out.bel, hB9⟩)
  clear C5 hB9
  have hbig : 4096 < s.size := by have := HB.out.1; omega
  go_wp2_with fail
  refine (cellsFrom_out B sa s _ H3.out.se hbig).mono ?_
  rintro e w4 ⟨rfl, b4⟩
  have H4 := Lib.hid (H3.out.below b4)
  clear b4 H3
  rw [show errv sa 2 = .iface 285 (.pointer (some (sa 1))) from rfl]
  go_wp2_with fail
  refine (coded1_any B sa 2 (by decide) 2 _ H4.out.se).mono ?_
  rintro e w5 ⟨rfl, b5⟩
  rw [show decide (((2 : Nat) : Int) = 2) = true from by decide]
  go_wp2_with fail
  go_ret
  exact ⟨rfl, (H4.out.below b5).bel⟩

set_option maxRecDepth 100000 in
set_option maxHeartbeats 4000000 in
theorem ca_good_small (B : Nat) (sa : Nat → Addr) (s : ByteArray) (size : Int) (L : List Act1V) (v : Value) (w : World) (hS : Sents B sa w) (h : SlOf (· < w.heap.size) w v 4 (L.flatMap act1Cells) L.length) (hL : ∀ a ∈ L, Act1Ok a) (hb : bigB s L.length) (hz : ¬ size < 0) (hz2 : ¬ 4096 < size) (h200 : ¬ 200 < s.size) :
    Calls Tryd.prog 8 #[.string s, .int .i64 size, v] w fun e w' => e = .returned (.bool true) ∧ Below w.heap.size w w' := by
  obtain ⟨ao, cap, rfl⟩ := h.val
  have HL := Lib.hid h
  have HLL := Lib.hid hL
  have HS := Lib.hid hS
  have hBt := hS.top
  have HB := Lib.hid hb
  have t1 : ¬ 60 < L.length := by have := hb.2; omega
  have t2 : ¬ 6000 < s.size := by have := hb.1; omega
  clear h hS hL hb
  go_enter Tryd.func8, Tryd.ntmps8
  go_wp2_with fail
  refine (stays_any B sa w HS.out).mono ?_
  rintro e w1 ⟨rfl, b1⟩
  have H1 := Lib.hid (SB.below ⟨HS.out, Below.refl _ _, hBt⟩ b1)
  clear b1 hBt HS
  have h4 : ¬ 4096 < s.size := by omega
  obtain ⟨n, rfl⟩ : ∃ n : Nat, size = n := ⟨size.toNat, by omega⟩
  go_wp2_with fail
  refine (ck_new n w _ H1.out.se H1.out.bel H1.out.top (by omega)).mono ?_
  rintro e w2 ⟨c, rb, rfl, h2⟩
  have C2 := Lib.hid h2
  clear h2 H1
  have hBytes : Hid (∀ W, CK B sa w c rb (some ⟨rb, 0, none⟩) n ⟨List.replicate n 0, false, -1, 0⟩ W → Calls Tryd.prog 38 #[.pointer (some ⟨c, 0, none⟩)] W (fun e w' => e = .returned (.string (strOf (zeros n))) ∧ W = w')) := (show ∀ W, CK B sa w c rb (some ⟨rb, 0, none⟩) n ⟨List.replicate n 0, false, -1, 0⟩ W → Calls Tryd.prog 38 #[.pointer (some ⟨c, 0, none⟩)] W (fun e w' => e = .returned (.string (strOf (zeros n))) ∧ W = w') from fun W hW => cellsBytes_any c rb _ n _ W hW.mem)
  have hmk := run_make_row' (P := Tryd.prog) 54 5 (.int .u8 0) 1 Tryd.underlying54 Tryd.infoByte rfl .i64 .i64 n (by omega) (by omega)
  have hcv := conv1 n w2
  unfold madeO at hcv
  go_upto_region 8 with fail
  go_cut [73] (fun s73 wx => s73 = .bool false ∧ Hid (CK B sa w c rb (some ⟨rb, 0, none⟩) n ⟨List.replicate n 0, false, -1, 0⟩ wx))
  case first =>
    go_region_held (fun w' => CK B sa w c rb (some ⟨rb, 0, none⟩) n ⟨List.replicate n 0, false, -1, 0⟩ w')
      (first | exact C2.out | exact C2.out.drew | exact ck_alloc C2.out _ | exact (ck_alloc C2.out _).drew | exact ck_alloc C2.out.drew _ | exact (ck_alloc C2.out.drew _).drew | exact (ck_alloc C2.out.drew _).drew.drew | exact (ck_alloc C2.out _).drew.drew | assumption)
      (first | (go_at_call 38; refine (hBytes.out _ (by first | exact C2.out | exact C2.out.drew | exact ck_alloc C2.out _ | exact (ck_alloc C2.out _).drew | exact ck_alloc C2.out.drew _ | exact (ck_alloc C2.out.drew _).drew | exact (ck_alloc C2.out.drew _).drew.drew | exact (ck_alloc C2.out _).drew.drew | assumption)).mono ?_; rintro e w' ⟨rfl, rfl⟩))
    all_goals
      go_wp2_with fail
      go_meet
      exact ⟨rfl, (by first | exact C2.out | exact C2.out.drew | exact ck_alloc C2.out _ | exact (ck_alloc C2.out _).drew | exact ck_alloc C2.out.drew _ | exact (ck_alloc C2.out.drew _).drew | exact (ck_alloc C2.out.drew _).drew.drew | exact (ck_alloc C2.out _).drew.drew | assumption)⟩
  case rest =>
  have hB9 := C2.out.lay.2.2
  clear C2 hcv hmk hBytes
  obtain ⟨rfl, C5⟩ := hcut
  have H3 : Hid (SB B sa w wc) := (show SB B sa w wc from ⟨C5.out.se, C5.out.bel, hB9⟩)
  clear C5 hB9
  go_wp2_with fail
  refine (ck_from s B sa w _ H3.out.se H3.out.bel H3.out.top (by omega)).mono ?_
  rintro e w4 ⟨c, rb, rfl, h4⟩
  have hR : RC (w4.alloc (.cells #[.string s, .bool false, .int .i64 0, .bool false, .int .i64 0] 62)) w4.heap.size ⟨s.data.toList, false, -1, 0⟩ := ⟨0, false, by
    rw [get_alloc_new]; rfl, .inl ⟨rfl, rfl⟩, h4.mem.len⟩
  have hc := lt_of_get h4.mem.box
  obtain ⟨C, t, hrow, _⟩ := h4.mem.row rfl
  have hrb := lt_of_get hrow
  have hsz := h4.bel.size
  have C4 := Lib.hid (h4.below ((Below.refl _ w4).alloc (Nat.le_refl _) (.cells #[.string s, .bool false, .int .i64 0, .bool false, .int .i64 0] 62)))
  have R4 := Lib.hid hR
  have N4 : Hid (w4.heap.size ≠ c ∧ w4.heap.size ≠ rb) := (show w4.heap.size ≠ c ∧ w4.heap.size ≠ rb from by omega)
  have M4 : Hid (CMOk (⟨s.data.toList, false, -1, 0⟩ : CM) 0) := (show CMOk (⟨s.data.toList, false, -1, 0⟩ : CM) 0 from ⟨by show (-1 : Int) ≤ -1; decide, by show (-1 : Int) ≤ 9223372036854775807; decide, by show (0 : Int) ≤ 0; decide, by show (0 : Int) ≤ 0; decide⟩)
  have hL6 := HB.out.2
  clear hR h4 hc hrow hrb H3
  go_wp2_with fail
  refine ca_loop B sa w _ L ao cap _ c rb _ _ _ HL HLL hL6 hsz M4 C4 R4 N4 _ ?_ ?_ _ _ _ _ _ _ _ _ _ _ _ _ _ _ _ _ _ _ _ _ _ _ _ _ _ _ _ _ _ _ _ _ _ _ _ _ _ _ _ _ _ _ _ _ _ _ _ _ _ _ _ _ _ _ _ _ _ _ _ _ _ _ _ _ _ _ _ _ _ _ _ _ _ _ _ _ _ _ _ _ _ _ _ _ _ _ _ _ _ _ _ _ _ _ _ _ _ _ _ _ _ _ _ _ _ _ _ _ _ _ _ _ _ _ _ _ _ _ _ _ _ _ _ _ _ _ _ _ _ _ _ _ _ _ _ _ _ _ _ _ _ _ _ _ _ _ _ _ _ _ _ _ _ _ _ _ _ _ _ _ _ _ _ _ _ _ _ _ _ _ _ _ _ _ _ _ _ _ _ _ _ _ _ _ _ _ _ _ _ _ _ _ _ _ _ _ _ _ _ _ _ _ _ _ _ _ _ _ _ _ _ _ _ _ _ _ _ _ _ _ _ _
  · intro y0 y1 y2 y3 y4 y5 y7 y8 y9 y10 y11 y12 y13 y14 y15 y16 y17 y18 y19 y20 y21 y22 y23 y24 y25 y26 y27 y28 y29 y30 y31 y32 y33 y34 y35 y36 y37 y38 y39 y40 y41 y42 y43 y44 y45 y46 y47 y48 y49 y50 y51 y52 y53 y54 y55 y56 y57 y58 y59 y60 y61 y62 y63 y64 y65 y66 y67 y68 y69 y70 y71 y72 y73 y74 y75 y76 y77 y78 y79 y80 y81 y82 y83 y84 y85 y86 y87 y88 y89 y90 y91 y92 y93 y94 y95 y96 y97 y98 y99 y100 y101 y102 y103 y104 y105 y106 y107 y108 y109 y110 y111 y112 y113 y114 y115 y116 y117 y118 y119 y120 y121 y122 y123 y124 y125 y126 y127 y128 y129 y130 y131 y132 y133 y134 y135 y136 y137 y138 y139 y140 y141 y142 y143 y144 y145 y146 y147 y148 y149 y150 y151 y152 y153 y154 y155 y156 y157 y158 y159 y160 y161 y162 y163 y164 y165 y166 y167 y168 y169 y170 y171 y172 y173 y174 y175 y176 y177 y178 y179 y180 y181 y182 y183 y184 y185 y186 y187 y188 y189 y190 y191 y192 y193 y194 y195 y196 y197 y198 y199 y200 y201 y202 y203 y204 y205 y206 y207 y208 y209 y210 y211 y212 y213 y214 y215 y216 y217 y218 y219 y220 y221 y222 y223 y224 y225 w9 b9
    go_wp2_with fail
    go_ret
    exact ⟨rfl, b9⟩
  · intro y0 y1 y2 y3 y4 y5 y6 y7 y8 y9 y10 y11 y12 y13 y14 y15 y16 y17 y18 y19 y20 y21 y22 y23 y24 y25 y26 y27 y28 y29 y30 y31 y32 y33 y34 y35 y36 y37 y38 y39 y40 y41 y42 y43 y44 y45 y46 y47 y48 y49 y50 y51 y52 y53 y54 y55 y56 y57 y58 y59 y60 y61 y62 y63 y64 y65 y66 y67 y68 y69 y70 y71 y72 y73 y74 y75 y76 y77 y78 y79 y80 y81 y82 y83 y84 y85 y86 y87 y88 y89 y90 y91 y92 y93 y94 y95 y96 y97 y98 y99 y100 y101 y102 y103 y104 y105 y106 y107 y108 y109 y110 y111 y112 y113 y114 y115 y116 y117 y118 y119 y120 y121 y122 y123 y124 y125 y126 y127 y128 y129 y130 y131 y132 y133 y134 y135 y136 y137 y138 y139 y140 y141 y142 y143 y144 y145 y146 y147 y148 y149 y150 y151 y152 y153 y154 y155 y156 y157 y158 y159 y160 y161 y162 y163 y164 y165 y166 y167 y168 y169 y170 y171 y172 y173 y174 y175 y176 y177 y178 y179 y180 y181 y182 y183 y184 y185 y186 y187 y188 y189 y190 y191 y192 y193 y194 y195 y196 y197 y198 y199 y200 y201 y202 y203 y204 y205 y206 y207 y208 y209 y210 y211 y212 y213 y214 y215 y216 y217 y218 y219 y220 y221 y222 y223 y224 y225 w9 b9
    go_wp2_with fail
    go_ret
    exact ⟨rfl, b9⟩

set_option maxRecDepth 100000 in
set_option maxHeartbeats 4000000 in
theorem cellsActs_any (B : Nat) (sa : Nat → Addr) (s : ByteArray) (size : Int) (L : List Act1V) (v : Value) (w : World) (hS : Sents B sa w) (h : SlOf (· < w.heap.size) w v 4 (L.flatMap act1Cells) L.length) (hL : ∀ a ∈ L, Act1Ok a) :
    Calls Tryd.prog 8 #[.string s, .int .i64 size, v] w fun e w' => e = .returned (.bool true) ∧ Below w.heap.size w w' := by
  by_cases hb : bigB s L.length
  · by_cases h200 : 200 < s.size
    · by_cases hz : size < 0 ∨ 4096 < size
      · exact ca_bad_big B sa s size L v w hS h hL hb hz h200
      · exact ca_good_big B sa s size L v w hS h hL hb (by omega) (by omega) h200
    · by_cases hz : size < 0 ∨ 4096 < size
      · exact ca_bad_small B sa s size L v w hS h hL hb hz h200
      · exact ca_good_small B sa s size L v w hS h hL hb (by omega) (by omega) h200
  · obtain ⟨ao, cap, rfl⟩ := h.val
    unfold bigB at hb
    have HB := Lib.hid hb
    have HS := Lib.hid hS
    clear h hS hL hb
    by_cases h1 : 200 < s.size
    · by_cases h2 : s.size ≤ 4096
      · go_enter Tryd.func8, Tryd.ntmps8
        go_wp2_with fail
        refine (stays_any B sa w HS.out).mono ?_
        rintro e w1 ⟨rfl, b1⟩
        go_wp2_with fail
        go_ret
        exact ⟨rfl, b1⟩
      · by_cases h3 : 6000 < s.size
        · go_enter Tryd.func8, Tryd.ntmps8
          go_wp2_with fail
          refine (stays_any B sa w HS.out).mono ?_
          rintro e w1 ⟨rfl, b1⟩
          go_wp2_with fail
          go_ret
          exact ⟨rfl, b1⟩
        · have h4 : 60 < L.length := by have := HB.out; omega
          go_enter Tryd.func8, Tryd.ntmps8
          go_wp2_with fail
          refine (stays_any B sa w HS.out).mono ?_
          rintro e w1 ⟨rfl, b1⟩
          go_wp2_with fail
          go_ret
          exact ⟨rfl, b1⟩
    · have h3 : ¬ 6000 < s.size := by omega
      have h4 : 60 < L.length := by have := HB.out; omega
      go_enter Tryd.func8, Tryd.ntmps8
      go_wp2_with fail
      refine (stays_any B sa w HS.out).mono ?_
      rintro e w1 ⟨rfl, b1⟩
      go_wp2_with fail
      go_ret
      exact ⟨rfl, b1⟩
end Go.Proofs.YtpodijlhlgbbdabDoor
