/- The document's ConfigText: one entity (made by mkct.py). -/
import Derived.Test.YtgdaljpimblkgaaGreatDoorR46
import Derived.Test.YtgdaljpimblkgaaGreatDoorR47
import Derived.Test.YtgdaljpimblkgaaGreatDoorR50
namespace Go.Proofs.YtgdaljpimblkgaaGreatDoor
open Go.RowKit
set_option linter.unusedVariables false

theorem line_ent (E : EntV) : lineB [.str entB, .str E.name, .num E.tol] = [101, 110, 116, 105, 116, 121, 32] ++ E.name.data.toList ++ [32] ++ Lib.itoa E.tol ++ [10] := by simp [lineB, upB, sepB, wordB, entB, List.range_succ]
theorem line_cnt (E : EntV) : lineB [.str cntB, .str (nameAt E E.count), .num E.mn, .num E.mx] = [99, 111, 117, 110, 116, 32] ++ (nameAt E E.count).data.toList ++ [32] ++ Lib.itoa E.mn ++ [32] ++ Lib.itoa E.mx ++ [10] := by simp [lineB, upB, sepB, wordB, cntB, List.range_succ]
theorem ent_lines (E : EntV) : linesB (entLn E) = lineB [.str entB, .str E.name, .num E.tol] ++ linesB (E.points.map pntL) ++ linesB (cntLn E) ++ linesB (E.gaps.map (gapLn E)) ++ linesB (E.edges.map (edgLn E)) ++ linesB (E.first.map (fstLn E)) ++ linesB (E.last.map (lstLn E)) := by
  unfold entLn
  rw [show ([.str entB, .str E.name, .num E.tol] :: (E.points.map pntL ++ cntLn E ++ E.gaps.map (gapLn E) ++ E.edges.map (edgLn E) ++ E.first.map (fstLn E) ++ E.last.map (lstLn E)) : List (List W1)) = [[.str entB, .str E.name, .num E.tol]] ++ (E.points.map pntL ++ cntLn E ++ E.gaps.map (gapLn E) ++ E.edges.map (edgLn E) ++ E.first.map (fstLn E) ++ E.last.map (lstLn E)) from rfl]
  simp only [linesB_app, linesB_one, List.append_assoc]
theorem all_le {α : Type} (f : α → List W1) (L : List α) (n : Nat) (hn : L.length ≤ n) (h : ∀ x ∈ L, WsOk (f x)) : (linesB (L.map f)).length ≤ 206 * n := by
  have := lines_le f L L.length n hn h
  rwa [List.take_length] at this
set_option maxRecDepth 100000 in
set_option maxHeartbeats 8000000 in
theorem ct_N (wr : World) (R : Nat → Prop) (E : EntV) (pa ga ea fa la : Option Addr) (pc gc ec fc lc b off cap n i q : Nat) (HG : Hid (EntGood E)) (S0 : ByteArray) (l : List UInt8) (hl : Hid (S0.data.toList = l)) (hlen : l.length ≤ 800000) (c4 : wr.cell? ⟨q, 4, none⟩ = some (.slice (some ⟨b, off, none⟩) n cap)) (hin : i < n) (hcap : (n : Int) ≤ (cap : Int))
    (p0 : wr.cell? ⟨b, off + i * 10, none⟩ = some (.string E.name)) (p1 : wr.cell? ⟨b, off + i * 10 + 1, none⟩ = some (.int .i64 E.tol)) (p2 : wr.cell? ⟨b, off + i * 10 + 2, none⟩ = some (.slice pa E.points.length pc)) (p3 : wr.cell? ⟨b, off + i * 10 + 3, none⟩ = some (.int .i64 E.count)) (p4 : wr.cell? ⟨b, off + i * 10 + 4, none⟩ = some (.int .i64 E.mn)) (p5 : wr.cell? ⟨b, off + i * 10 + 5, none⟩ = some (.int .i64 E.mx)) (p6 : wr.cell? ⟨b, off + i * 10 + 6, none⟩ = some (.slice ga E.gaps.length gc)) (p7 : wr.cell? ⟨b, off + i * 10 + 7, none⟩ = some (.slice ea E.edges.length ec)) (p8 : wr.cell? ⟨b, off + i * 10 + 8, none⟩ = some (.slice fa E.first.length fc)) (p9 : wr.cell? ⟨b, off + i * 10 + 9, none⟩ = some (.slice la E.last.length lc))
    (hsl : Hid (EntSl R wr E (.slice pa E.points.length pc) (.slice ga E.gaps.length gc) (.slice ea E.edges.length ec) (.slice fa E.first.length fc) (.slice la E.last.length lc))) (hR : ∀ b, R b → b < wr.heap.size) (Q0 : Exit → Act → World → Prop) (x0 x2 x5 x6 x7 x8 x9 x10 x11 x12 x13 x14 x15 x16 x17 x18 x19 x20 x21 x22 x23 x24 x25 x26 x27 x28 x29 x30 x31 x32 x33 x34 x35 x36 x37 x38 x39 x40 x41 x42 x43 x44 x45 x46 x47 x48 x49 x50 x51 x52 x53 x54 x55 x56 x57 x58 x59 x60 x61 x62 x63 x64 x65 x66 x67 x68 x69 x70 x71 x72 x73 x74 x75 x76 x77 x78 x79 x80 x81 x82 x83 x84 x85 x86 x87 x88 x89 x90 x91 x92 x93 x94 x95 x96 x97 x98 x99 x100 x101 x102 x103 x104 x105 x106 x107 x108 x109 x110 x111 x112 x113 x114 x115 x116 x117 x118 x119 x120 x121 x122 x123 x124 x125 x126 x127 x128 x129 x130 x131 x132 x133 x134 x135 x136 x137 x138 x139 x140 x141 x142 x143 x144 x145 x146 x147 x148 x149 x150 x151 x152 x153 x154 x155 x156 x157 x158 x159 x160 x161 x162 x163 x164 x165 x166 x167 x168 x169 x170 x171 x172 x173 x174 x175 x176 x177 x178 x179 x180 x181 x182 x183 x184 x185 x186 x187 x188 x189 x190 x191 x192 x193 x194 x195 x196 x197 x198 x199 x200 x201 x202 x203 x204 x205 x206 x207 : Value)
    (hexit : ∀ (y5 y6 y7 y8 y9 y10 y11 y39 y40 y41 y42 y43 y44 y45 y46 y47 y48 y49 y50 y51 y52 y53 y54 y55 y56 y57 y58 y59 y60 y61 y62 y63 y64 y65 y66 y67 y68 y69 y70 y71 y72 y73 y74 y75 y76 y77 y78 y79 y80 y81 y82 y83 y84 y85 y86 y87 y88 y89 y90 y91 y92 y93 y94 y95 y96 y97 y98 y99 y100 y101 y102 y103 y104 y105 y106 y107 y108 y109 y110 y111 y112 y113 y114 y115 y116 y117 y118 y119 y120 y121 y122 y123 y124 y125 y126 y127 y128 y129 y130 y131 y132 y133 y134 y135 y136 y137 y138 y139 y140 y141 y142 y143 y144 y145 y146 y147 y148 y149 y150 y151 y152 y153 y154 y155 y156 y157 y158 y159 y160 y161 y162 y163 y164 y165 y166 y167 y168 y169 y170 y171 y172 y173 y174 y175 y176 y177 y178 y179 y180 y181 y182 y183 y184 y185 y186 y187 y188 y189 y190 y191 y192 y193 y194 y195 y196 y197 y198 y199 y200 y201 y202 y203 y204 y205 y206 : Value) (S1 : ByteArray) (w' : World), S1.data.toList = l ++ linesB (entLn E) → Below wr.heap.size wr w' → Q0 .normal ⟨(List.toArray ((x0) :: (.pointer (some ⟨q, 0, none⟩)) :: (x2) :: (.string S1) :: (.int .i64 (i : Int)) :: (y5) :: (y6) :: (y7) :: (y8) :: (y9) :: (y10) :: (y11) :: (x12) :: (x13) :: (x14) :: (x15) :: (x16) :: (x17) :: (x18) :: (x19) :: (x20) :: (x21) :: (x22) :: (x23) :: (x24) :: (x25) :: (x26) :: (x27) :: (x28) :: (x29) :: (x30) :: (x31) :: (x32) :: (x33) :: (x34) :: (x35) :: (x36) :: (x37) :: (x38) :: (y39) :: (y40) :: (y41) :: (y42) :: (y43) :: (y44) :: (y45) :: (y46) :: (y47) :: (y48) :: (y49) :: (y50) :: (y51) :: (y52) :: (y53) :: (y54) :: (y55) :: (y56) :: (y57) :: (y58) :: (y59) :: (y60) :: (y61) :: (y62) :: (y63) :: (y64) :: (y65) :: (y66) :: (y67) :: (y68) :: (y69) :: (y70) :: (y71) :: (y72) :: (y73) :: (y74) :: (y75) :: (y76) :: (y77) :: (y78) :: (y79) :: (y80) :: (y81) :: (y82) :: (y83) :: (y84) :: (y85) :: (y86) :: (y87) :: (y88) :: (y89) :: (y90) :: (y91) :: (y92) :: (y93) :: (y94) :: (y95) :: (y96) :: (y97) :: (y98) :: (y99) :: (y100) :: (y101) :: (y102) :: (y103) :: (y104) :: (y105) :: (y106) :: (y107) :: (y108) :: (y109) :: (y110) :: (y111) :: (y112) :: (y113) :: (y114) :: (y115) :: (y116) :: (y117) :: (y118) :: (y119) :: (y120) :: (y121) :: (y122) :: (y123) :: (y124) :: (y125) :: (y126) :: (y127) :: (y128) :: (y129) :: (y130) :: (y131) :: (y132) :: (y133) :: (y134) :: (y135) :: (y136) :: (y137) :: (y138) :: (y139) :: (y140) :: (y141) :: (y142) :: (y143) :: (y144) :: (y145) :: (y146) :: (y147) :: (y148) :: (y149) :: (y150) :: (y151) :: (y152) :: (y153) :: (y154) :: (y155) :: (y156) :: (y157) :: (y158) :: (y159) :: (y160) :: (y161) :: (y162) :: (y163) :: (y164) :: (y165) :: (y166) :: (y167) :: (y168) :: (y169) :: (y170) :: (y171) :: (y172) :: (y173) :: (y174) :: (y175) :: (y176) :: (y177) :: (y178) :: (y179) :: (y180) :: (y181) :: (y182) :: (y183) :: (y184) :: (y185) :: (y186) :: (y187) :: (y188) :: (y189) :: (y190) :: (y191) :: (y192) :: (y193) :: (y194) :: (y195) :: (y196) :: (y197) :: (y198) :: (y199) :: (y200) :: (y201) :: (y202) :: (y203) :: (y204) :: (y205) :: (y206) :: (x207) :: [])), []⟩ w') :
    Code.wp Tryz.prog (ctBlk 1) Q0 ⟨(List.toArray ((x0) :: (.pointer (some ⟨q, 0, none⟩)) :: (x2) :: (.string S0) :: (.int .i64 (i : Int)) :: (x5) :: (x6) :: (x7) :: (x8) :: (x9) :: (x10) :: (x11) :: (x12) :: (x13) :: (x14) :: (x15) :: (x16) :: (x17) :: (x18) :: (x19) :: (x20) :: (x21) :: (x22) :: (x23) :: (x24) :: (x25) :: (x26) :: (x27) :: (x28) :: (x29) :: (x30) :: (x31) :: (x32) :: (x33) :: (x34) :: (x35) :: (x36) :: (x37) :: (x38) :: (x39) :: (x40) :: (x41) :: (x42) :: (x43) :: (x44) :: (x45) :: (x46) :: (x47) :: (x48) :: (x49) :: (x50) :: (x51) :: (x52) :: (x53) :: (x54) :: (x55) :: (x56) :: (x57) :: (x58) :: (x59) :: (x60) :: (x61) :: (x62) :: (x63) :: (x64) :: (x65) :: (x66) :: (x67) :: (x68) :: (x69) :: (x70) :: (x71) :: (x72) :: (x73) :: (x74) :: (x75) :: (x76) :: (x77) :: (x78) :: (x79) :: (x80) :: (x81) :: (x82) :: (x83) :: (x84) :: (x85) :: (x86) :: (x87) :: (x88) :: (x89) :: (x90) :: (x91) :: (x92) :: (x93) :: (x94) :: (x95) :: (x96) :: (x97) :: (x98) :: (x99) :: (x100) :: (x101) :: (x102) :: (x103) :: (x104) :: (x105) :: (x106) :: (x107) :: (x108) :: (x109) :: (x110) :: (x111) :: (x112) :: (x113) :: (x114) :: (x115) :: (x116) :: (x117) :: (x118) :: (x119) :: (x120) :: (x121) :: (x122) :: (x123) :: (x124) :: (x125) :: (x126) :: (x127) :: (x128) :: (x129) :: (x130) :: (x131) :: (x132) :: (x133) :: (x134) :: (x135) :: (x136) :: (x137) :: (x138) :: (x139) :: (x140) :: (x141) :: (x142) :: (x143) :: (x144) :: (x145) :: (x146) :: (x147) :: (x148) :: (x149) :: (x150) :: (x151) :: (x152) :: (x153) :: (x154) :: (x155) :: (x156) :: (x157) :: (x158) :: (x159) :: (x160) :: (x161) :: (x162) :: (x163) :: (x164) :: (x165) :: (x166) :: (x167) :: (x168) :: (x169) :: (x170) :: (x171) :: (x172) :: (x173) :: (x174) :: (x175) :: (x176) :: (x177) :: (x178) :: (x179) :: (x180) :: (x181) :: (x182) :: (x183) :: (x184) :: (x185) :: (x186) :: (x187) :: (x188) :: (x189) :: (x190) :: (x191) :: (x192) :: (x193) :: (x194) :: (x195) :: (x196) :: (x197) :: (x198) :: (x199) :: (x200) :: (x201) :: (x202) :: (x203) :: (x204) :: (x205) :: (x206) :: (x207) :: [])), []⟩ wr := by
  have HEXIT := Lib.hid hexit
  have HLen := Lib.hid hlen
  have heb : EB wr R E (.slice pa E.points.length pc) (.slice ga E.gaps.length gc) (.slice ea E.edges.length ec) (.slice fa E.first.length fc) (.slice la E.last.length lc) wr.heap.size (wr.alloc (.cells (entCs E (.slice pa E.points.length pc) (.slice ga E.gaps.length gc) (.slice ea E.edges.length ec) (.slice fa E.first.length fc) (.slice la E.last.length lc)) 52)) :=
    ⟨get_alloc_new _ _, hsl.out.keep (below_keep ((Below.refl _ _).alloc (Nat.le_refl _) _)) (fun _ _ h => h), (Below.refl _ _).alloc (Nat.le_refl _) _, hR, Nat.le_refl _⟩
  have HE1 := Lib.hid heb
  unfold entCs at HE1
  clear hexit hlen heb hR
  conv => arg 2; whnf
  go_upto_region 6 with fail
  generalize wr.alloc _ = wb at HE1 ⊢
  obtain ⟨eb, hebq⟩ : ∃ eb, eb = wr.heap.size := ⟨_, rfl⟩
  rw [← hebq] at HE1 ⊢
  have hew := lt_of_get HE1.out.box
  clear hebq p0 p1 p2 p3 p4 p5 p6 p7 p8 p9 c4 hcap
  obtain ⟨c0, c1, c2, c3, c4, c5, c6, c7, c8, c9⟩ := HE1.out.cells
  have hnm := HG.out.name
  have htl := HG.out.tol
  obtain ⟨v1, hv1⟩ : ∃ v, v = E.tol := ⟨_, rfl⟩
  have hit := itoa_len v1 (by omega) (by omega)
  have hdc := fun W => rDecimal_any v1 (by omega) (by omega) W
  obtain ⟨n1, hn1⟩ : ∃ n, n = strV (Lib.itoa v1) := ⟨_, rfl⟩
  rw [← hn1] at hdc
  have HD := Lib.hid (fun W (hW : Below wb.heap.size wb W) => (hdc W).mono (R' := fun e w' => e = .returned (.string n1) ∧ Below wb.heap.size wb w') (fun e w' h => ⟨h.1, hW.trans (h.2.mono hW.size)⟩))
  have hz1 : n1.size ≤ 40 := by rw [hn1, strV_size]; exact hit
  have HLE := Lib.hid (line_ent E)
  rw [← hv1, show Lib.itoa v1 = n1.data.toList from by rw [hn1, strV_data]] at HLE
  rw [← hv1] at c1
  have hSz : S0.size ≤ 800000 := by rw [dsize, hl.out]; exact HLen.out
  obtain ⟨T0, dT0, zT0, hadd0⟩ := cat_any (P := Tryz.prog) S0 ⟨#[101, 110, 116, 105, 116, 121, 32]⟩ (by have := (show (⟨#[101, 110, 116, 105, 116, 121, 32]⟩ : ByteArray).size = 7 from rfl); omega)
  rw [(show (⟨#[101, 110, 116, 105, 116, 121, 32]⟩ : ByteArray).size = 7 from rfl)] at zT0
  obtain ⟨T1, dT1, zT1, hadd1⟩ := cat_any (P := Tryz.prog) T0 E.name (by omega)
  obtain ⟨T2, dT2, zT2, hadd2⟩ := cat_any (P := Tryz.prog) T1 ⟨#[32]⟩ (by have := (show (⟨#[32]⟩ : ByteArray).size = 1 from rfl); omega)
  rw [(show (⟨#[32]⟩ : ByteArray).size = 1 from rfl)] at zT2
  obtain ⟨T3, dT3, zT3, hadd3⟩ := cat_any (P := Tryz.prog) T2 n1 (by omega)
  obtain ⟨T4, dT4, zT4, hadd4⟩ := cat_any (P := Tryz.prog) T3 ⟨#[10]⟩ (by have := (show (⟨#[10]⟩ : ByteArray).size = 1 from rfl); omega)
  have HT4 : Hid (T4.data.toList = l ++ lineB [.str entB, .str E.name, .num E.tol]) := (show T4.data.toList = l ++ lineB [.str entB, .str E.name, .num E.tol] from by
    rw [hv1] at HLE
    rw [HLE.out, dT4, dT3, dT2, dT1, dT0, hl.out]
    simp)
  clear dT0 zT0 dT1 zT1 dT2 zT2 dT3 zT3 dT4 zT4 hnm htl hit hdc hn1 hz1 hSz hv1
  go_region_held3 (fun w' => ∀ o, w'.cell? ⟨eb, o, none⟩ = wb.cell? ⟨eb, o, none⟩)
    (first | exact fun _ => rfl | exact fun o => d1.cell (p := ⟨eb, o, none⟩) hew)
    (first | (go_at_call_of 26 (Value.int .i64 v1); refine (HD.out _ ?_).mono ?_; (repeat (first | exact Below.refl _ _ | refine Below.drew ?_)); rintro e wA ⟨rfl, d1⟩))
  have HE2 := Lib.hid (HE1.out.below d1)
  clear c0 c1 c2 c3 c4 c5 c6 c7 c8 c9 hadd0 hadd1 hadd2 hadd3 hadd4
  have L1 : (l ++ lineB [.str entB, .str E.name, .num E.tol]).length ≤ 900000 := by
    have h1 := (entHead_ok HG.out).line
    have h2 := HLen.out
    rw [List.length_append]
    omega
  go_upto_block 2 with fail
  refine ct_P wr _ R E pa ga ea fa la pc gc ec fc lc eb HG HE2 T4 _ HT4 L1 _ _ _ _ _ _ _ _ _ _ _ _ _ _ _ _ _ _ _ _ _ _ _ _ _ _ _ _ _ _ _ _ _ _ _ _ _ _ _ _ _ _ _ _ _ _ _ _ _ _ _ _ _ _ _ _ _ _ _ _ _ _ _ _ _ _ _ _ _ _ _ _ _ _ _ _ _ _ _ _ _ _ _ _ _ _ _ _ _ _ _ _ _ _ _ _ _ _ _ _ _ _ _ _ _ _ _ _ _ _ _ _ _ _ _ _ _ _ _ _ _ _ _ _ _ _ _ _ _ _ _ _ _ _ _ _ _ _ _ _ _ _ _ _ _ _ _ _ _ _ _ _ _ _ _ _ _ _ _ _ _ _ _ _ _ _ _ _ _ _ _ _ _ _ _ _ _ _ _ _ _ _ _ _ _ _ _ _ _ _ _ _ _ _ _ _ _ _ _ _ _ _ _ _ _ _ ?_
  intro y6 y55 y56 y57 y58 y59 y60 y61 y62 y63 y64 y65 y66 y67 y68 y69 y70 S1 w2 hS1 he1
  have HS1 := Lib.hid hS1
  have HE3 := Lib.hid he1
  clear hS1 he1
  have L2 : (l ++ lineB [.str entB, .str E.name, .num E.tol] ++ linesB (E.points.map pntL)).length ≤ 803708 := by
    have h1 := (entHead_ok HG.out).line
    have h2 := HLen.out
    have h3 := all_le pntL E.points 16 HG.out.pl (fun x hx => pntL_ok HG.out hx)
    rw [List.length_append, List.length_append]
    omega
  obtain ⟨c0, c1, c2, c3, c4, c5, c6, c7, c8, c9⟩ := HE3.out.cells
  go_upto_if 73 with fail
  go_cut [3] from 72 to 93 (fun s3 wx => ∃ S, s3 = .string S ∧ Hid (S.data.toList = l ++ lineB [.str entB, .str E.name, .num E.tol] ++ linesB (E.points.map pntL) ++ linesB (cntLn E)) ∧ Hid (EB wr R E (.slice pa E.points.length pc) (.slice ga E.gaps.length gc) (.slice ea E.edges.length ec) (.slice fa E.first.length fc) (.slice la E.last.length lc) eb wx))
  case first =>
    by_cases hc : 0 ≤ E.count
    · have hcn := HG.out.cnt
      have hrg := HG.out.rng
      obtain ⟨j1, hj1⟩ : ∃ j : Nat, E.count = (j : Int) := ⟨E.count.toNat, by omega⟩
      have hp1 : j1 < E.points.length := by omega
      obtain ⟨pb, po, rfl, hRp, hpb, hcp⟩ := str_cells HE3.out.sl.p (by omega)
      have q1 := hcp j1 hp1
      have hs1 := HG.out.ps _ (List.getElem_mem hp1)
      have HLB := Lib.hid (line_cnt E)
      rw [name_of hj1 hp1] at HLB
      obtain ⟨s1, hse1⟩ : ∃ s, s = E.points[j1] := ⟨_, rfl⟩
      rw [← hse1] at q1 hs1 HLB
      have HCL : Hid (linesB (cntLn E) = lineB [.str cntB, .str (nameAt E E.count), .num E.mn, .num E.mx]) := (show _ = _ from by unfold cntLn; rw [if_pos hc, linesB_one])
      rw [hj1] at c3
      have hc0 : (0 : Int) ≤ (j1 : Int) := by omega
      obtain ⟨v1, hv1⟩ : ∃ v, v = E.mn := ⟨_, rfl⟩
      obtain ⟨v2, hv2⟩ : ∃ v, v = E.mx := ⟨_, rfl⟩
      rw [← hv1] at c4 HLB hrg
      rw [← hv2] at c5 HLB hrg
      obtain ⟨h30, h31, h32⟩ := hrg
      have hi1 := itoa_len v1 h30 (by omega)
      have hi2 := itoa_len v2 (by omega) (by omega)
      have hdc1 := fun W => rDecimal_any v1 h30 (by omega) W
      have hdc2 := fun W => rDecimal_any v2 (by omega) (by omega) W
      obtain ⟨n1, hn1⟩ : ∃ n, n = strV (Lib.itoa v1) := ⟨_, rfl⟩
      obtain ⟨n2, hn2⟩ : ∃ n, n = strV (Lib.itoa v2) := ⟨_, rfl⟩
      rw [← hn1] at hdc1
      rw [← hn2] at hdc2
      have HD1 := Lib.hid (fun W (hW : Below w2.heap.size w2 W) => (hdc1 W).mono (R' := fun e w' => e = .returned (.string n1) ∧ Below w2.heap.size w2 w') (fun e w' h => ⟨h.1, hW.trans (h.2.mono hW.size)⟩))
      have HD2 := Lib.hid (fun W (hW : Below w2.heap.size w2 W) => (hdc2 W).mono (R' := fun e w' => e = .returned (.string n2) ∧ Below w2.heap.size w2 w') (fun e w' h => ⟨h.1, hW.trans (h.2.mono hW.size)⟩))
      have hz1 : n1.size ≤ 40 := by rw [hn1, strV_size]; exact hi1
      have hz2 : n2.size ≤ 40 := by rw [hn2, strV_size]; exact hi2
      rw [show Lib.itoa v1 = n1.data.toList from by rw [hn1, strV_data], show Lib.itoa v2 = n2.data.toList from by rw [hn2, strV_data]] at HLB
      have hSz : S1.size ≤ 803708 := by rw [dsize, HS1.out]; exact L2
      obtain ⟨T0, dT0, zT0, hadd0⟩ := cat_any (P := Tryz.prog) S1 ⟨#[99, 111, 117, 110, 116, 32]⟩ (by have := (show (⟨#[99, 111, 117, 110, 116, 32]⟩ : ByteArray).size = 6 from rfl); omega)
      rw [(show (⟨#[99, 111, 117, 110, 116, 32]⟩ : ByteArray).size = 6 from rfl)] at zT0
      obtain ⟨T1, dT1, zT1, hadd1⟩ := cat_any (P := Tryz.prog) T0 s1 (by omega)
      obtain ⟨T2, dT2, zT2, hadd2⟩ := cat_any (P := Tryz.prog) T1 ⟨#[32]⟩ (by have := (show (⟨#[32]⟩ : ByteArray).size = 1 from rfl); omega)
      rw [(show (⟨#[32]⟩ : ByteArray).size = 1 from rfl)] at zT2
      obtain ⟨T3, dT3, zT3, hadd3⟩ := cat_any (P := Tryz.prog) T2 n1 (by omega)
      obtain ⟨T4, dT4, zT4, hadd4⟩ := cat_any (P := Tryz.prog) T3 ⟨#[32]⟩ (by have := (show (⟨#[32]⟩ : ByteArray).size = 1 from rfl); omega)
      rw [(show (⟨#[32]⟩ : ByteArray).size = 1 from rfl)] at zT4
      obtain ⟨T5, dT5, zT5, hadd5⟩ := cat_any (P := Tryz.prog) T4 n2 (by omega)
      obtain ⟨T6, dT6, zT6, hadd6⟩ := cat_any (P := Tryz.prog) T5 ⟨#[10]⟩ (by have := (show (⟨#[10]⟩ : ByteArray).size = 1 from rfl); omega)
      have HT6 : Hid (T6.data.toList = l ++ lineB [.str entB, .str E.name, .num E.tol] ++ linesB (E.points.map pntL) ++ linesB (cntLn E)) := (show T6.data.toList = l ++ lineB [.str entB, .str E.name, .num E.tol] ++ linesB (E.points.map pntL) ++ linesB (cntLn E) from by
        rw [HCL.out, name_of hj1 hp1, ← hse1, ← hv1, ← hv2]
        have hlb := HLB.out
        rw [hlb, dT6, dT5, dT4, dT3, dT2, dT1, dT0, HS1.out]
        simp)
      have hpw := hpb
      have hew2 := lt_of_get HE3.out.box
      clear dT0 zT0 dT1 zT1 dT2 zT2 dT3 zT3 dT4 zT4 dT5 zT5 dT6 zT6 hi1 hi2 hdc1 hdc2 hn1 hn2 hz1 hz2 hSz hv1 hv2 hj1 hse1 hcp hcn h30 h31 h32 HLB
      go_upto_region 12 with fail
      refine wp_region_noPanic ?_
      go_region_held3 (fun w' => (∀ o, w'.cell? ⟨eb, o, none⟩ = w2.cell? ⟨eb, o, none⟩) ∧ (∀ o, w'.cell? ⟨pb, o, none⟩ = w2.cell? ⟨pb, o, none⟩))
        (first | exact ⟨fun _ => rfl, fun _ => rfl⟩ | exact ⟨fun o => e2.cell (p := ⟨eb, o, none⟩) hew2, fun o => e2.cell (p := ⟨pb, o, none⟩) hpw⟩ | exact ⟨fun o => e1.cell (p := ⟨eb, o, none⟩) hew2, fun o => e1.cell (p := ⟨pb, o, none⟩) hpw⟩)
        (first | (go_at_call_of 26 (Value.int .i64 v1); refine (HD1.out _ ?_).mono ?_; (repeat (first | exact Below.refl _ _ | refine Below.drew ?_)); rintro e wA ⟨rfl, e1⟩) | (go_at_call_of 26 (Value.int .i64 v2); refine (HD2.out _ ?_).mono ?_; (repeat (first | exact e1 | refine Below.drew ?_)); rintro e wB ⟨rfl, e2⟩))
      have HE4 := Lib.hid (HE3.out.below e2)
      refine NoPanic.normal ?_
      go_wp2_with fail
      go_meet
      exact ⟨T6, rfl, HT6, HE4⟩
    · have HCL : Hid (S1.data.toList = l ++ lineB [.str entB, .str E.name, .num E.tol] ++ linesB (E.points.map pntL) ++ linesB (cntLn E)) := (show _ = _ from by unfold cntLn; rw [if_neg hc, HS1.out]; simp [linesB])
      go_wp2_with fail
      go_meet
      exact ⟨S1, rfl, HCL, HE3⟩
  case rest =>
  obtain ⟨S2, rfl, HS2, HE4⟩ := hcut
  clear c0 c1 c2 c3 c4 c5 c6 c7 c8 c9 HE3 HS1
  have K1 : (linesB (cntLn E)).length ≤ 206 := by
    unfold cntLn
    split
    · rw [linesB_one]; exact (cntLn_ok HG.out).line
    · simp [linesB]
  have K2 := all_le (gapLn E) E.gaps 8 HG.out.gl (fun x hx => gapLn_ok HG.out hx)
  have K3 := all_le (edgLn E) E.edges 64 HG.out.el (fun x hx => edgLn_ok HG.out x)
  have K4 := all_le (fstLn E) E.first 16 HG.out.fl (fun x hx => fstLn_ok HG.out x)
  have HKs := Lib.hid (And.intro L2 (And.intro K1 (And.intro K2 (And.intro K3 K4))))
  clear L1 L2 K1 K2 K3 K4
  go_upto_block 4 with fail
  refine ct_G wr _ R E pa ga ea fa la pc gc ec fc lc eb HG HE4 S2 _ HS2 (by obtain ⟨a, b, c, d, e⟩ := HKs.out; rw [List.length_append]; omega) _ _ _ _ _ _ _ _ _ _ _ _ _ _ _ _ _ _ _ _ _ _ _ _ _ _ _ _ _ _ _ _ _ _ _ _ _ _ _ _ _ _ _ _ _ _ _ _ _ _ _ _ _ _ _ _ _ _ _ _ _ _ _ _ _ _ _ _ _ _ _ _ _ _ _ _ _ _ _ _ _ _ _ _ _ _ _ _ _ _ _ _ _ _ _ _ _ _ _ _ _ _ _ _ _ _ _ _ _ _ _ _ _ _ _ _ _ _ _ _ _ _ _ _ _ _ _ _ _ _ _ _ _ _ _ _ _ _ _ _ _ _ _ _ _ _ _ _ _ _ _ _ _ _ _ _ _ _ _ _ _ _ _ _ _ _ _ _ _ _ _ _ _ _ _ _ _ _ _ _ _ _ _ _ _ _ _ _ _ _ _ _ _ _ _ _ _ _ _ _ _ _ _ _ _ _ ?_
  intro y7 y8 y94 y95 y96 y97 y98 y99 y100 y101 y102 y103 y104 y105 y106 y107 y108 y109 y110 y111 y112 y113 y114 y115 y116 y117 y118 y119 y120 y121 y122 y123 y124 y125 y126 y127 y128 y129 y130 y131 y132 y133 S3 w3 hS3 he3
  have HS3 := Lib.hid hS3
  have HE5 := Lib.hid he3
  clear hS3 he3
  go_upto_block 6 with fail
  refine ct_E wr _ R E pa ga ea fa la pc gc ec fc lc eb HG HE5 S3 _ HS3 (by obtain ⟨a, b, c, d, e⟩ := HKs.out; rw [List.length_append, List.length_append]; omega) _ _ _ _ _ _ _ _ _ _ _ _ _ _ _ _ _ _ _ _ _ _ _ _ _ _ _ _ _ _ _ _ _ _ _ _ _ _ _ _ _ _ _ _ _ _ _ _ _ _ _ _ _ _ _ _ _ _ _ _ _ _ _ _ _ _ _ _ _ _ _ _ _ _ _ _ _ _ _ _ _ _ _ _ _ _ _ _ _ _ _ _ _ _ _ _ _ _ _ _ _ _ _ _ _ _ _ _ _ _ _ _ _ _ _ _ _ _ _ _ _ _ _ _ _ _ _ _ _ _ _ _ _ _ _ _ _ _ _ _ _ _ _ _ _ _ _ _ _ _ _ _ _ _ _ _ _ _ _ _ _ _ _ _ _ _ _ _ _ _ _ _ _ _ _ _ _ _ _ _ _ _ _ _ _ _ _ _ _ _ _ _ _ _ _ _ _ _ _ _ _ _ _ _ _ _ ?_
  intro y9 y134 y135 y136 y137 y138 y139 y140 y141 y142 y143 y144 y145 y146 y147 y148 y149 y150 y151 y152 y153 y154 y155 y156 y157 y158 y159 y160 y161 y162 y163 y164 y165 y166 S4 w4 hS4 he4
  have HS4 := Lib.hid hS4
  have HE6 := Lib.hid he4
  clear hS4 he4
  go_upto_block 8 with fail
  refine ct_F wr _ R E pa ga ea fa la pc gc ec fc lc eb HG HE6 S4 _ HS4 (by obtain ⟨a, b, c, d, e⟩ := HKs.out; rw [List.length_append, List.length_append, List.length_append]; omega) _ _ _ _ _ _ _ _ _ _ _ _ _ _ _ _ _ _ _ _ _ _ _ _ _ _ _ _ _ _ _ _ _ _ _ _ _ _ _ _ _ _ _ _ _ _ _ _ _ _ _ _ _ _ _ _ _ _ _ _ _ _ _ _ _ _ _ _ _ _ _ _ _ _ _ _ _ _ _ _ _ _ _ _ _ _ _ _ _ _ _ _ _ _ _ _ _ _ _ _ _ _ _ _ _ _ _ _ _ _ _ _ _ _ _ _ _ _ _ _ _ _ _ _ _ _ _ _ _ _ _ _ _ _ _ _ _ _ _ _ _ _ _ _ _ _ _ _ _ _ _ _ _ _ _ _ _ _ _ _ _ _ _ _ _ _ _ _ _ _ _ _ _ _ _ _ _ _ _ _ _ _ _ _ _ _ _ _ _ _ _ _ _ _ _ _ _ _ _ _ _ _ _ _ _ _ ?_
  intro y10 y167 y168 y169 y170 y171 y172 y173 y174 y175 y176 y177 y178 y179 y180 y181 y182 y183 y184 y185 y186 S5 w5 hS5 he5
  have HS5 := Lib.hid hS5
  have HE7 := Lib.hid he5
  clear hS5 he5
  go_upto_block 10 with fail
  refine ct_L wr _ R E pa ga ea fa la pc gc ec fc lc eb HG HE7 S5 _ HS5 (by obtain ⟨a, b, c, d, e⟩ := HKs.out; rw [List.length_append, List.length_append, List.length_append, List.length_append]; omega) _ _ _ _ _ _ _ _ _ _ _ _ _ _ _ _ _ _ _ _ _ _ _ _ _ _ _ _ _ _ _ _ _ _ _ _ _ _ _ _ _ _ _ _ _ _ _ _ _ _ _ _ _ _ _ _ _ _ _ _ _ _ _ _ _ _ _ _ _ _ _ _ _ _ _ _ _ _ _ _ _ _ _ _ _ _ _ _ _ _ _ _ _ _ _ _ _ _ _ _ _ _ _ _ _ _ _ _ _ _ _ _ _ _ _ _ _ _ _ _ _ _ _ _ _ _ _ _ _ _ _ _ _ _ _ _ _ _ _ _ _ _ _ _ _ _ _ _ _ _ _ _ _ _ _ _ _ _ _ _ _ _ _ _ _ _ _ _ _ _ _ _ _ _ _ _ _ _ _ _ _ _ _ _ _ _ _ _ _ _ _ _ _ _ _ _ _ _ _ _ _ _ _ _ _ _ ?_
  intro y11 y187 y188 y189 y190 y191 y192 y193 y194 y195 y196 y197 y198 y199 y200 y201 y202 y203 y204 y205 y206 S6 w6 hS6 he6
  have HS6 : Hid (S6.data.toList = l ++ linesB (entLn E)) := (show S6.data.toList = l ++ linesB (entLn E) from by
    rw [hS6, ent_lines]
    simp only [List.append_assoc])
  have HB6 := Lib.hid he6.bel
  clear hS6 he6
  go_wp2_with fail
  exact HEXIT.out _ _ _ _ _ _ _ _ _ _ _ _ _ _ _ _ _ _ _ _ _ _ _ _ _ _ _ _ _ _ _ _ _ _ _ _ _ _ _ _ _ _ _ _ _ _ _ _ _ _ _ _ _ _ _ _ _ _ _ _ _ _ _ _ _ _ _ _ _ _ _ _ _ _ _ _ _ _ _ _ _ _ _ _ _ _ _ _ _ _ _ _ _ _ _ _ _ _ _ _ _ _ _ _ _ _ _ _ _ _ _ _ _ _ _ _ _ _ _ _ _ _ _ _ _ _ _ _ _ _ _ _ _ _ _ _ _ _ _ _ _ _ _ _ _ _ _ _ _ _ _ _ _ _ _ _ _ _ _ _ _ _ _ _ _ _ _ _ _ _ _ _ _ _ _ _ _ HS6.out HB6.out
end Go.Proofs.YtgdaljpimblkgaaGreatDoor

/- The document's ConfigText, whole (made by mkct.py). -/
namespace Go.Proofs.YtgdaljpimblkgaaGreatDoor
open Go.RowKit
set_option linter.unusedVariables false

theorem ent_small {E : EntV} (h : EntGood E) : (linesB (entLn E)).length ≤ 26000 := by
  have h1 := (entHead_ok h).line
  have h2 := all_le pntL E.points 16 h.pl (fun x hx => pntL_ok h hx)
  have K1 : (linesB (cntLn E)).length ≤ 206 := by
    unfold cntLn
    split
    · rw [linesB_one]; exact (cntLn_ok h).line
    · simp [linesB]
  have K2 := all_le (gapLn E) E.gaps 8 h.gl (fun x hx => gapLn_ok h hx)
  have K3 := all_le (edgLn E) E.edges 64 h.el (fun x hx => edgLn_ok h x)
  have K4 := all_le (fstLn E) E.first 16 h.fl (fun x hx => fstLn_ok h x)
  have K5 := all_le (lstLn E) E.last 16 h.ll (fun x hx => lstLn_ok h x)
  rw [ent_lines]
  simp only [List.length_append]
  omega
theorem head_text (C : ConfV) : headB C = [119, 105, 110, 100, 111, 119, 32] ++ Lib.itoa C.closed ++ [32] ++ Lib.itoa C.opn ++ [10, 99, 121, 99, 108, 101, 32] ++ Lib.itoa C.cycle ++ [10, 100, 101, 108, 97, 121, 32] ++ Lib.itoa C.delay ++ [10] := by
  simp [headB, headL, lineB, upB, sepB, wordB, winB, cycB, delB, List.range_succ]
set_option maxRecDepth 100000 in
set_option maxHeartbeats 8000000 in
theorem rConfigText_any (R : Nat → Prop) (C : ConfV) (v : Value) (X : List EntX) (w : World) (h : ConfSl R w C v X) (hR : ∀ b, R b → b < w.heap.size) (hC : confF C = (0, -1)) :
    Calls Tryz.prog 12 #[.agg (confCs C v)] w fun e w' => (∃ S : ByteArray, e = .returned (.string S) ∧ S.data.toList = textB C) ∧ Below w.heap.size w w' := by
  obtain ⟨ao, cap, rfl⟩ := h.sl.row.val
  obtain ⟨hc1, hc2⟩ := h.sl.row.capB
  have hbC := (confF_parts hC).1
  unfold boundC at hbC
  rw [decide_eq_false_iff_not] at hbC
  have h1 : 0 ≤ C.closed ∧ C.closed ≤ 1099511627776 := by omega
  have h2 : 0 ≤ C.opn ∧ C.opn ≤ 1099511627776 := by omega
  have h3 : 0 ≤ C.cycle ∧ C.cycle ≤ 1099511627776 := by omega
  have h4 : 0 ≤ C.delay ∧ C.delay ≤ 1099511627776 := by omega
  clear hbC
  have hxa := get_alloc_new w (.cells (confCs C (.slice ao X.length cap)) 24)
  have hba : Below w.heap.size w (w.alloc (.cells (confCs C (.slice ao X.length cap)) 24)) := (Below.refl _ _).alloc (Nat.le_refl _) _
  have HGood : Hid (∀ i (hi : i < X.length), EntGood X[i].E) := (show ∀ i (hi : i < X.length), EntGood X[i].E from fun i hi => by
    have hl : i < C.ents.length := by rw [h.eq, List.length_map]; exact hi
    have := (confF_parts hC).2.2 i hl
    rw [entAt_at hl] at this
    have hg := good_of this
    simpa [h.eq] using hg)
  have H := Lib.hid h
  have HRw := Lib.hid hR
  have HL8 := Lib.hid (show X.length ≤ 8 from by
    have := (confF_parts hC).1
    unfold boundC at this
    rw [decide_eq_false_iff_not] at this
    rw [h.eq, List.length_map] at this
    omega)
  clear hC h hR
  unfold confCs at hxa hba ⊢
  go_enter Tryz.func12, Tryz.ntmps12
  go_upto_region 1 with fail
  generalize w.alloc _ = w1 at hxa hba ⊢
  obtain ⟨q, hq⟩ : ∃ q, q = w.heap.size := ⟨_, rfl⟩
  rw [← hq] at hxa ⊢
  have HXA : Hid (w1.heap[q]? = some (.cells (confCs C (.slice ao X.length cap)) 24)) := hxa
  have HBA := Lib.hid hba
  have hqw := lt_of_get hxa
  clear hxa hba hq
  obtain ⟨c0, c1, c2, c3, c4⟩ := conf_cells HXA.out
  obtain ⟨v1, hv1⟩ : ∃ v, v = C.closed := ⟨_, rfl⟩
  obtain ⟨v2, hv2⟩ : ∃ v, v = C.opn := ⟨_, rfl⟩
  obtain ⟨v3, hv3⟩ : ∃ v, v = C.cycle := ⟨_, rfl⟩
  obtain ⟨v4, hv4⟩ : ∃ v, v = C.delay := ⟨_, rfl⟩
  rw [← hv1] at c0 h1
  rw [← hv2] at c1 h2
  rw [← hv3] at c2 h3
  rw [← hv4] at c3 h4
  have hi1 := itoa_len v1 h1.1 (by omega)
  have hdc1 := fun W => rDecimal_any v1 h1.1 (by omega) W
  obtain ⟨n1, hn1⟩ : ∃ n, n = strV (Lib.itoa v1) := ⟨_, rfl⟩
  rw [← hn1] at hdc1
  have HD1 := Lib.hid (fun W (hW : Below w1.heap.size w1 W) => (hdc1 W).mono (R' := fun e w' => e = .returned (.string n1) ∧ Below w1.heap.size w1 w') (fun e w' h => ⟨h.1, hW.trans (h.2.mono hW.size)⟩))
  have hz1 : n1.size ≤ 40 := by rw [hn1, strV_size]; exact hi1
  have hi2 := itoa_len v2 h2.1 (by omega)
  have hdc2 := fun W => rDecimal_any v2 h2.1 (by omega) W
  obtain ⟨n2, hn2⟩ : ∃ n, n = strV (Lib.itoa v2) := ⟨_, rfl⟩
  rw [← hn2] at hdc2
  have HD2 := Lib.hid (fun W (hW : Below w1.heap.size w1 W) => (hdc2 W).mono (R' := fun e w' => e = .returned (.string n2) ∧ Below w1.heap.size w1 w') (fun e w' h => ⟨h.1, hW.trans (h.2.mono hW.size)⟩))
  have hz2 : n2.size ≤ 40 := by rw [hn2, strV_size]; exact hi2
  have hi3 := itoa_len v3 h3.1 (by omega)
  have hdc3 := fun W => rDecimal_any v3 h3.1 (by omega) W
  obtain ⟨n3, hn3⟩ : ∃ n, n = strV (Lib.itoa v3) := ⟨_, rfl⟩
  rw [← hn3] at hdc3
  have HD3 := Lib.hid (fun W (hW : Below w1.heap.size w1 W) => (hdc3 W).mono (R' := fun e w' => e = .returned (.string n3) ∧ Below w1.heap.size w1 w') (fun e w' h => ⟨h.1, hW.trans (h.2.mono hW.size)⟩))
  have hz3 : n3.size ≤ 40 := by rw [hn3, strV_size]; exact hi3
  have hi4 := itoa_len v4 h4.1 (by omega)
  have hdc4 := fun W => rDecimal_any v4 h4.1 (by omega) W
  obtain ⟨n4, hn4⟩ : ∃ n, n = strV (Lib.itoa v4) := ⟨_, rfl⟩
  rw [← hn4] at hdc4
  have HD4 := Lib.hid (fun W (hW : Below w1.heap.size w1 W) => (hdc4 W).mono (R' := fun e w' => e = .returned (.string n4) ∧ Below w1.heap.size w1 w') (fun e w' h => ⟨h.1, hW.trans (h.2.mono hW.size)⟩))
  have hz4 : n4.size ≤ 40 := by rw [hn4, strV_size]; exact hi4
  obtain ⟨T0, dT0, zT0, hadd0⟩ := cat_any (P := Tryz.prog) ⟨#[119, 105, 110, 100, 111, 119, 32]⟩ n1 (by have := (show (⟨#[119, 105, 110, 100, 111, 119, 32]⟩ : ByteArray).size = 7 from rfl); omega)
  rw [(show (⟨#[119, 105, 110, 100, 111, 119, 32]⟩ : ByteArray).size = 7 from rfl)] at zT0
  obtain ⟨T1, dT1, zT1, hadd1⟩ := cat_any (P := Tryz.prog) T0 ⟨#[32]⟩ (by have := (show (⟨#[32]⟩ : ByteArray).size = 1 from rfl); omega)
  rw [(show (⟨#[32]⟩ : ByteArray).size = 1 from rfl)] at zT1
  obtain ⟨T2, dT2, zT2, hadd2⟩ := cat_any (P := Tryz.prog) T1 n2 (by omega)
  obtain ⟨T3, dT3, zT3, hadd3⟩ := cat_any (P := Tryz.prog) T2 ⟨#[10, 99, 121, 99, 108, 101, 32]⟩ (by have := (show (⟨#[10, 99, 121, 99, 108, 101, 32]⟩ : ByteArray).size = 7 from rfl); omega)
  rw [(show (⟨#[10, 99, 121, 99, 108, 101, 32]⟩ : ByteArray).size = 7 from rfl)] at zT3
  obtain ⟨T4, dT4, zT4, hadd4⟩ := cat_any (P := Tryz.prog) T3 n3 (by omega)
  obtain ⟨T5, dT5, zT5, hadd5⟩ := cat_any (P := Tryz.prog) T4 ⟨#[10, 100, 101, 108, 97, 121, 32]⟩ (by have := (show (⟨#[10, 100, 101, 108, 97, 121, 32]⟩ : ByteArray).size = 7 from rfl); omega)
  rw [(show (⟨#[10, 100, 101, 108, 97, 121, 32]⟩ : ByteArray).size = 7 from rfl)] at zT5
  obtain ⟨T6, dT6, zT6, hadd6⟩ := cat_any (P := Tryz.prog) T5 n4 (by omega)
  obtain ⟨T7, dT7, zT7, hadd7⟩ := cat_any (P := Tryz.prog) T6 ⟨#[10]⟩ (by have := (show (⟨#[10]⟩ : ByteArray).size = 1 from rfl); omega)
  rw [(show (⟨#[10]⟩ : ByteArray).size = 1 from rfl)] at zT7
  have HT : Hid (T7.data.toList = headB C) := (show T7.data.toList = headB C from by
    rw [head_text, ← hv1, ← hv2, ← hv3, ← hv4, dT7, dT6, dT5, dT4, dT3, dT2, dT1, dT0, hn1, hn2, hn3, hn4, strV_data, strV_data, strV_data, strV_data])
  have HHL := Lib.hid (show (headB C).length ≤ 618 from by
    rw [← HT.out, ← dsize]
    omega)
  clear dT0 zT0 dT1 zT1 dT2 zT2 dT3 zT3 dT4 zT4 dT5 zT5 dT6 zT6 dT7 zT7 hi1 hi2 hi3 hi4 hdc1 hdc2 hdc3 hdc4 hn1 hn2 hn3 hn4 hz1 hz2 hz3 hz4 hv1 hv2 hv3 hv4 h1 h2 h3 h4
  go_region_held3 (fun w' => ∀ o, w'.cell? ⟨q, o, none⟩ = w1.cell? ⟨q, o, none⟩)
    (first | exact fun _ => rfl | exact fun o => e4.cell (p := ⟨q, o, none⟩) hqw | exact fun o => e3.cell (p := ⟨q, o, none⟩) hqw | exact fun o => e2.cell (p := ⟨q, o, none⟩) hqw | exact fun o => e1.cell (p := ⟨q, o, none⟩) hqw)
    (first | (go_at_call_of 26 (Value.int .i64 v1); refine (HD1.out _ ?_).mono ?_; (repeat (first | exact Below.refl _ _ | refine Below.drew ?_)); rintro e wA1 ⟨rfl, e1⟩) | (go_at_call_of 26 (Value.int .i64 v2); refine (HD2.out _ ?_).mono ?_; (repeat (first | exact e1 | refine Below.drew ?_)); rintro e wA2 ⟨rfl, e2⟩) | (go_at_call_of 26 (Value.int .i64 v3); refine (HD3.out _ ?_).mono ?_; (repeat (first | exact e2 | refine Below.drew ?_)); rintro e wA3 ⟨rfl, e3⟩) | (go_at_call_of 26 (Value.int .i64 v4); refine (HD4.out _ ?_).mono ?_; (repeat (first | exact e3 | refine Below.drew ?_)); rintro e wA4 ⟨rfl, e4⟩))
  have HX5 := Lib.hid (below_get e4 HXA.out hqw)
  have HB5 := Lib.hid (HBA.out.trans (e4.mono HBA.out.size))
  clear c0 c1 c2 c3 c4 hadd0 hadd1 hadd2 hadd3 hadd4 hadd5 hadd6 hadd7 HXA HBA
  obtain ⟨w5, hw5⟩ : ∃ w5, w5 = wA4 := ⟨_, rfl⟩
  rw [← hw5] at HX5 HB5 ⊢
  clear hw5
  go_wp2_with fail
  go_loopw [3, 4] (fun s3 s4 wr => ∃ (i : Nat) (S : ByteArray), i ≤ X.length ∧ s3 = .string S ∧ s4 = .int .i64 i ∧ Hid (S.data.toList = headB C ++ (X.take i).flatMap (fun x => linesB (entLn x.E))) ∧ Hid (Below w5.heap.size w5 wr) ∧ Hid ((headB C ++ (X.take i).flatMap (fun x => linesB (entLn x.E))).length ≤ 618 + 26000 * i)) (fun _ s4 _ => X.length - (intOf s4).toNat)
  case atStart => exact ⟨0, T7, Nat.zero_le _, rfl, rfl, (show T7.data.toList = headB C ++ [] from by rw [List.append_nil]; exact HT.out), Below.refl _ _, (show (headB C ++ []).length ≤ 618 + 26000 * 0 from by rw [List.append_nil]; exact HHL.out)⟩
  case round =>
    obtain ⟨i, S, hi, rfl, rfl, hS, hb, hlen⟩ := hrel
    have hx := below_get hb.out HX5.out (lt_of_get HX5.out)
    obtain ⟨c0, c1, c2, c3, c4⟩ := conf_cells hx
    by_cases hlt : i < X.length
    · obtain ⟨eb0, off, rfl, hRb, hbb, hc⟩ := ent_elem H.out.sl.row (by omega)
      obtain ⟨q0, q1, q2, q3, q4, q5, q6, q7, q8, q9⟩ := hc i hlt
      have HBR := Lib.hid (HB5.out.trans (hb.out.mono HB5.out.size))
      rw [← HBR.out.cell (HRw.out eb0 hRb)] at q0 q1 q2 q3 q4 q5 q6 q7 q8 q9
      have hEs := H.out.sl.each X[i] (List.getElem_mem hlt)
      have HG := Lib.hid (HGood.out i hlt)
      have HTk := Lib.hid (show (X.take (i + 1)).flatMap (fun x => linesB (entLn x.E)) = (X.take i).flatMap (fun x => linesB (entLn x.E)) ++ linesB (entLn X[i].E) from by rw [List.take_succ_eq_append_getElem hlt, List.flatMap_append, List.flatMap_singleton])
      have hEs0 := hEs
      obtain ⟨xe, hxe⟩ : ∃ xe, xe = X[i].E := ⟨_, rfl⟩
      obtain ⟨pa, pc, hvp⟩ := hEs.p.val
      obtain ⟨ga, gc, hvg⟩ := hEs.g.val
      obtain ⟨ea, ec, hve⟩ := hEs.e.val
      obtain ⟨fa, fc, hvf⟩ := hEs.f.val
      obtain ⟨la, lc, hvl⟩ := hEs.l.val
      rw [hvp, hvg, hve, hvf, hvl] at hEs0
      rw [hvp] at q2
      rw [hvg] at q6
      rw [hve] at q7
      rw [hvf] at q8
      rw [hvl] at q9
      rw [← hxe] at HG HTk hEs0 q0 q1 q2 q3 q4 q5 q6 q7 q8 q9
      have HES : Hid (EntSl R wr xe (.slice pa xe.points.length pc) (.slice ga xe.gaps.length gc) (.slice ea xe.edges.length ec) (.slice fa xe.first.length fc) (.slice la xe.last.length lc)) := (show EntSl R wr xe _ _ _ _ _ from hEs0.keep (Keep.of_below HBR.out) (fun b hb hS => by have := HRw.out b hb; omega))
      have hRw := below_lt2 HRw.out HBR.out
      have hL : (headB C ++ (X.take i).flatMap (fun x => linesB (entLn x.E))).length ≤ 800000 := by
        have h1 := hlen.out
        have h2 := HL8.out
        omega
      have HS8 := Lib.hid hS.out
      clear hEs hEs0 hc hvp hvg hve hvf hvl hxe hx
      go_upto_block 1 with fail
      refine ct_N wr R xe pa ga ea fa la pc gc ec fc lc eb0 off cap X.length i q HG S _ HS8 hL c4 hlt (by omega) q0 q1 q2 q3 q4 q5 q6 q7 q8 q9 HES hRw _ _ _ _ _ _ _ _ _ _ _ _ _ _ _ _ _ _ _ _ _ _ _ _ _ _ _ _ _ _ _ _ _ _ _ _ _ _ _ _ _ _ _ _ _ _ _ _ _ _ _ _ _ _ _ _ _ _ _ _ _ _ _ _ _ _ _ _ _ _ _ _ _ _ _ _ _ _ _ _ _ _ _ _ _ _ _ _ _ _ _ _ _ _ _ _ _ _ _ _ _ _ _ _ _ _ _ _ _ _ _ _ _ _ _ _ _ _ _ _ _ _ _ _ _ _ _ _ _ _ _ _ _ _ _ _ _ _ _ _ _ _ _ _ _ _ _ _ _ _ _ _ _ _ _ _ _ _ _ _ _ _ _ _ _ _ _ _ _ _ _ _ _ _ _ _ _ _ _ _ _ _ _ _ _ _ _ _ _ _ _ _ _ _ _ _ _ _ _ _ _ _ _ _ _ _ ?_
      intro y5 y6 y7 y8 y9 y10 y11 y39 y40 y41 y42 y43 y44 y45 y46 y47 y48 y49 y50 y51 y52 y53 y54 y55 y56 y57 y58 y59 y60 y61 y62 y63 y64 y65 y66 y67 y68 y69 y70 y71 y72 y73 y74 y75 y76 y77 y78 y79 y80 y81 y82 y83 y84 y85 y86 y87 y88 y89 y90 y91 y92 y93 y94 y95 y96 y97 y98 y99 y100 y101 y102 y103 y104 y105 y106 y107 y108 y109 y110 y111 y112 y113 y114 y115 y116 y117 y118 y119 y120 y121 y122 y123 y124 y125 y126 y127 y128 y129 y130 y131 y132 y133 y134 y135 y136 y137 y138 y139 y140 y141 y142 y143 y144 y145 y146 y147 y148 y149 y150 y151 y152 y153 y154 y155 y156 y157 y158 y159 y160 y161 y162 y163 y164 y165 y166 y167 y168 y169 y170 y171 y172 y173 y174 y175 y176 y177 y178 y179 y180 y181 y182 y183 y184 y185 y186 y187 y188 y189 y190 y191 y192 y193 y194 y195 y196 y197 y198 y199 y200 y201 y202 y203 y204 y205 y206 S1 w2 hS1 hb1
      have HS1 : Hid (S1.data.toList = headB C ++ (X.take (i + 1)).flatMap (fun x => linesB (entLn x.E))) := (show _ = _ from by rw [hS1, HTk.out, List.append_assoc])
      have HL1 : Hid ((headB C ++ (X.take (i + 1)).flatMap (fun x => linesB (entLn x.E))).length ≤ 618 + 26000 * (i + 1)) := (show (headB C ++ (X.take (i + 1)).flatMap (fun x => linesB (entLn x.E))).length ≤ 618 + 26000 * (i + 1) from by
        have h1 := hlen.out
        have h2 := ent_small HG.out
        rw [HTk.out, ← List.append_assoc, List.length_append]
        omega)
      have HB1 := Lib.hid (hb.out.trans (hb1.mono hb.out.size))
      clear hS1 hb1 hS hL hRw q0 q1 q2 q3 q4 q5 q6 q7 q8 q9 c0 c1 c2 c3 c4
      go_wp2_with fail
      go_roundw
      case rel => exact ⟨i + 1, S1, by omega, rfl, by go_num, HS1, HB1, HL1⟩
      case measure => simp [intOf]; omega
    · have HE : Hid (S.data.toList = textB C) := (show S.data.toList = textB C from by
        rw [hS.out, (show i = X.length by omega), List.take_length]
        unfold textB
        rw [H.out.eq, List.flatMap_map])
      have HBE := Lib.hid (HB5.out.trans (hb.out.mono HB5.out.size))
      clear hS hlen hx
      go_wp2_with fail
      go_ret
      exact ⟨⟨S, rfl, HE.out⟩, HBE.out⟩
end Go.Proofs.YtgdaljpimblkgaaGreatDoor
