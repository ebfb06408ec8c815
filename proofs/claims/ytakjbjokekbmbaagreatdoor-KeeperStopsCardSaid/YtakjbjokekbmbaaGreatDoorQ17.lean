/- The document's EntityError: its loops. -/
import Derived.Test.YtakjbjokekbmbaaGreatDoorQ16
import Derived.Test.YtakjbjokekbmbaaGreatDoorQ10
import Derived.Test.YtakjbjokekbmbaaGreatDoorQ05
namespace Go.Proofs.YtakjbjokekbmbaaGreatDoor
open Go.RowKit
set_option linter.unusedVariables false

def loopsOf : Code → List Code
  | .loop c => [c]
  | .seq a b => loopsOf a ++ loopsOf b
  | .block _ c => loopsOf c
  | .scope c => loopsOf c
  | .cond _ a b => loopsOf a ++ loopsOf b
  | _ => []
noncomputable def eeBody (n : Nat) : Code := ((Tryz.f29.body.map loopsOf).getD []).getD n .skip

structure EntX where
  E : EntV
  p : Value
  g : Value
  e : Value
  f : Value
  l : Value
def entXCells (x : EntX) : List Value := (entCs x.E x.p x.g x.e x.f x.l).toList
/-- v is a slice of entities that read as X. -/
structure EntsSl (R : Nat → Prop) (w : World) (v : Value) (X : List EntX) : Prop where
  row : SlOf R w v 10 (X.flatMap entXCells) X.length
  each : ∀ x ∈ X, EntSl R w x.E x.p x.g x.e x.f x.l
theorem EntsSl.keep {R S : Nat → Prop} {w w' : World} {v : Value} {X : List EntX} (h : EntsSl R w v X) (k : Keep S w w') (hd : ∀ b, R b → ¬ S b) : EntsSl R w' v X :=
  ⟨h.row.keep k hd, fun x hx => (h.each x hx).keep k hd⟩

/-! ### What is wrong about an entity -/
def ptE (P : List ByteArray) (k : Nat) : Nat := if isNameB (P.getD k ByteArray.empty) = false then 4 else if sidxOf P (P.getD k ByteArray.empty) < k then 6 else 0
def ptsE (P : List ByteArray) : Nat := ((List.range P.length).find? (fun k => ptE P k != 0)).elim 0 (ptE P)
theorem ptsE_hit {P : List ByteArray} {k : Nat} (hk : k < P.length) (h : ptE P k ≠ 0) (hb : ∀ j, j < k → ptE P j = 0) : ptsE P = ptE P k := by
  have : (List.range P.length).find? (fun k => ptE P k != 0) = some k := by
    rw [List.find?_range_eq_some]
    exact ⟨by simpa using h, List.mem_range.2 hk, fun j hj => by simpa using hb j hj⟩
  unfold ptsE
  rw [this]; rfl
theorem ptsE_miss {P : List ByteArray} (h : ∀ j, j < P.length → ptE P j = 0) : ptsE P = 0 := by
  have : (List.range P.length).find? (fun k => ptE P k != 0) = none := by
    rw [List.find?_range_eq_none]
    intro j hj
    simpa using h j hj
  unfold ptsE
  rw [this]; rfl
theorem ptE_at {P : List ByteArray} {k : Nat} (hk : k < P.length) : ptE P k = if isNameB P[k] = false then 4 else if sidxOf P P[k] < k then 6 else 0 := by
  unfold ptE
  rw [List.getD_eq_getElem?_getD, List.getElem?_eq_getElem hk]; rfl
def gapWrong (g : GapV) : Bool := decide (g.mn < 0 ∨ g.mx < g.mn ∨ 1099511627776 < g.mx)
def edgesTwice (l : List (Int × Int)) : Bool := (List.range l.length).any (fun i => decide (l.getD i (0, 0) ∈ l.take i))

theorem edgesTwice_hit {l : List (Int × Int)} (i : Nat) (hi : i < l.length) (h : l[i] ∈ l.take i) : edgesTwice l = true := by
  unfold edgesTwice
  rw [List.any_eq_true]
  exact ⟨i, List.mem_range.2 hi, by rw [List.getD_eq_getElem?_getD, List.getElem?_eq_getElem hi]; exact decide_eq_true h⟩
theorem edgesTwice_miss {l : List (Int × Int)} (h : ∀ i (hi : i < l.length), l[i] ∉ l.take i) : edgesTwice l = false := by
  unfold edgesTwice
  rw [List.any_eq_false]
  intro i hi
  have hi := List.mem_range.1 hi
  rw [List.getD_eq_getElem?_getD, List.getElem?_eq_getElem hi]
  simpa using h i hi
theorem mem_take_of {α : Type} {l : List α} {j k : Nat} (hj : j < k) (hk : k < l.length) (x : α) (h : l[j]'(by omega) = x) : x ∈ l.take k := by
  rw [← h]
  exact List.mem_iff_getElem.2 ⟨j, by simp; omega, by simp⟩
theorem not_mem_take {α : Type} {l : List α} {k : Nat} (hk : k < l.length) (x : α) (h : ∀ j (hj : j < k), l[j]'(by omega) ≠ x) : x ∉ l.take k := by
  intro hm
  obtain ⟨j, hj, e⟩ := List.mem_iff_getElem.1 hm
  have hj2 : j < k := by have := hj; simp at this; omega
  exact h j hj2 (by simpa using e)

def pairEqE (P : Program) (t : TypeId) : Prop := ∀ (w : World) (a b c d : Int), (Op.equalIn 10000 t (.agg #[.int .i64 a, .int .i64 b]) (.agg #[.int .i64 c, .int .i64 d])).run P w = .ok (decide ((a, b) = (c, d))) w
theorem pair_equal_of {P : Program} {t e : TypeId} (ut : P.underlying t = some (.array 2 e)) (ue : P.underlying e = some (.int .i64)) (us : ∃ i, P.info? e = some i ∧ i.size = 1) (w : World) (p q : Int × Int) :
    (Op.equalIn 10000 t (.agg #[.int .i64 p.1, .int .i64 p.2]) (.agg #[.int .i64 q.1, .int .i64 q.2])).run P w = .ok (decide (p = q)) w := by
  obtain ⟨i, hi, hs⟩ := us
  have key : ∀ d, (Op.equalIn (d + 2) t (.agg #[.int .i64 p.1, .int .i64 p.2]) (.agg #[.int .i64 q.1, .int .i64 q.2])).run P w = .ok (decide (p = q)) w := by
    intro d
    rw [Op.equalIn]
    have p0 := fun (a b : Int) (w : World) => run_part_int (P := P) w ue #[.int .i64 a, .int .i64 b] 0 _ rfl
    have p1 := fun (a b : Int) (w : World) => run_part_int (P := P) w ue #[.int .i64 a, .int .i64 b] 1 _ rfl
    have e1 := fun (a b : Int) (w : World) => run_equalIn_int (P := P) w d e .i64 .i64 a b ue
    simp [run_underlying ut, sizeOf, typeInfo, hi, hs, Std.Legacy.Range.forIn_eq_forIn_range', Std.Legacy.Range.size, List.range', p0, p1, e1]
    by_cases h1 : p.1 = q.1
    · by_cases h2 : p.2 = q.2
      · rw [if_pos h1, if_pos h2, decide_eq_true (Prod.ext h1 h2)]
      · rw [if_pos h1, if_neg h2, decide_eq_false (fun h => h2 (by rw [h]))]
    · rw [if_neg h1, decide_eq_false (fun h => h1 (by rw [h]))]
  exact key 9998
theorem Tryz.pairEqE : pairEqE Tryz.prog 97 := fun w a b c d => pair_equal_of Tryz.underlying97 Tryz.underlying3 (by
  obtain ⟨i0, hi0, hz0, hz1, hz2⟩ := info_parts Tryz.infoInt
  exact ⟨i0, hi0, hz1⟩) w (a, b) (c, d)

set_option maxRecDepth 100000 in
set_option maxHeartbeats 4000000 in
theorem ee_pts (R : Nat → Prop) (E : EntV) (vp vg ve vf vl : Value) (eb : Nat) (v0 v1 : Value) (w wr0 : World) (hE : EntSmall E) (he0 : Hid (EB w R E vp vg ve vf vl eb wr0)) (Q0 : Exit → Act → World → Prop)
    (hret : ∀ (y0 y1 y2 y3 y5 y6 y7 y8 y9 y10 y11 y12 y13 y14 y15 y16 y17 y18 y19 y20 y21 y22 y23 y24 y25 y26 y27 y28 y29 y30 y31 y32 y33 y34 y35 y36 y37 y38 y39 y40 y41 y42 y43 y44 y45 y46 y47 y48 y49 y50 y51 y52 y53 y54 y55 y56 y57 y58 y59 y60 y61 y62 y63 y64 y65 y66 y67 y68 y69 y70 y71 y72 y73 y74 y75 y76 y77 y78 y79 y80 y81 y82 y83 y84 y85 y86 y87 y88 y89 y90 y91 y92 y93 y94 y95 y96 y97 y98 y99 y100 y101 y102 y103 y104 y105 y106 y107 y108 y109 y110 y111 y112 y113 y114 y115 y116 y117 y118 y119 y120 y121 y122 y123 y124 y125 y126 y127 y128 y129 y130 y131 y132 y133 y134 y135 y136 y137 y138 y139 y140 y141 y142 y143 y144 y145 y146 y147 y148 y149 y150 y151 y152 y153 y154 y155 y156 y157 y158 y159 y160 y161 y162 y163 y164 y165 y166 y167 y168 y169 y170 y171 y172 y173 y174 y175 y176 y177 y178 y179 y180 y181 y182 y183 y184 y185 y186 y187 y188 y189 y190 y191 y192 y193 y194 y195 y196 y197 y198 y199 y200 y201 y202 y203 y204 y205 y206 y207 y208 y209 y210 y211 y212 y213 y214 y215 y216 y217 y218 y219 y220 y221 : Value) (w' : World), ptsE E.points ≠ 0 → Below w.heap.size w w' → Q0 .ret ⟨(List.toArray (y0 :: y1 :: y2 :: y3 :: (.int .i64 (ptsE E.points : Nat)) :: y5 :: y6 :: y7 :: y8 :: y9 :: y10 :: y11 :: y12 :: y13 :: y14 :: y15 :: y16 :: y17 :: y18 :: y19 :: y20 :: y21 :: y22 :: y23 :: y24 :: y25 :: y26 :: y27 :: y28 :: y29 :: y30 :: y31 :: y32 :: y33 :: y34 :: y35 :: y36 :: y37 :: y38 :: y39 :: y40 :: y41 :: y42 :: y43 :: y44 :: y45 :: y46 :: y47 :: y48 :: y49 :: y50 :: y51 :: y52 :: y53 :: y54 :: y55 :: y56 :: y57 :: y58 :: y59 :: y60 :: y61 :: y62 :: y63 :: y64 :: y65 :: y66 :: y67 :: y68 :: y69 :: y70 :: y71 :: y72 :: y73 :: y74 :: y75 :: y76 :: y77 :: y78 :: y79 :: y80 :: y81 :: y82 :: y83 :: y84 :: y85 :: y86 :: y87 :: y88 :: y89 :: y90 :: y91 :: y92 :: y93 :: y94 :: y95 :: y96 :: y97 :: y98 :: y99 :: y100 :: y101 :: y102 :: y103 :: y104 :: y105 :: y106 :: y107 :: y108 :: y109 :: y110 :: y111 :: y112 :: y113 :: y114 :: y115 :: y116 :: y117 :: y118 :: y119 :: y120 :: y121 :: y122 :: y123 :: y124 :: y125 :: y126 :: y127 :: y128 :: y129 :: y130 :: y131 :: y132 :: y133 :: y134 :: y135 :: y136 :: y137 :: y138 :: y139 :: y140 :: y141 :: y142 :: y143 :: y144 :: y145 :: y146 :: y147 :: y148 :: y149 :: y150 :: y151 :: y152 :: y153 :: y154 :: y155 :: y156 :: y157 :: y158 :: y159 :: y160 :: y161 :: y162 :: y163 :: y164 :: y165 :: y166 :: y167 :: y168 :: y169 :: y170 :: y171 :: y172 :: y173 :: y174 :: y175 :: y176 :: y177 :: y178 :: y179 :: y180 :: y181 :: y182 :: y183 :: y184 :: y185 :: y186 :: y187 :: y188 :: y189 :: y190 :: y191 :: y192 :: y193 :: y194 :: y195 :: y196 :: y197 :: y198 :: y199 :: y200 :: y201 :: y202 :: y203 :: y204 :: y205 :: y206 :: y207 :: y208 :: y209 :: y210 :: y211 :: y212 :: y213 :: y214 :: y215 :: y216 :: y217 :: y218 :: y219 :: y220 :: y221 :: [])), []⟩ w')
    (hexit : ∀ (y2 y3 y6 y7 y8 y9 y10 y11 y12 y13 y14 y15 y16 y17 y18 y19 y20 y21 y22 y23 y24 y25 y26 y27 y28 y29 y30 y31 y32 y33 y34 y35 y36 y37 y38 y39 y40 y41 y42 y43 y44 y45 y46 y47 y48 y49 y50 y51 y52 y53 y54 y55 y56 y57 y58 y59 y60 y61 y62 y63 y64 y65 y66 y67 y68 y69 y70 y71 y72 y73 y74 y75 y76 y77 y78 y79 y80 y81 y82 y83 y84 y85 y86 y87 y88 y89 y90 y91 y92 y93 y94 y95 y96 y97 y98 y99 y100 y101 y102 y103 y104 y105 y106 y107 y108 y109 y110 y111 y112 y113 y114 y115 y116 y117 y118 y119 y120 y121 y122 y123 y124 y125 y126 y127 y128 y129 y130 y131 y132 y133 y134 y135 y136 y137 y138 y139 y140 y141 y142 y143 y144 y145 y146 y147 y148 y149 y150 y151 y152 y153 y154 y155 y156 y157 y158 y159 y160 y161 y162 y163 y164 y165 y166 y167 y168 y169 y170 y171 y172 y173 y174 y175 y176 y177 y178 y179 y180 y181 y182 y183 y184 y185 y186 y187 y188 y189 y190 y191 y192 y193 y194 y195 y196 y197 y198 y199 y200 y201 y202 y203 y204 y205 y206 y207 y208 y209 y210 y211 y212 y213 y214 y215 y216 y217 y218 y219 y220 y221 : Value) (w' : World), ptsE E.points = 0 → EB w R E vp vg ve vf vl eb w' → Q0 (.exit 2) ⟨(List.toArray ((v0) :: (v1) :: y2 :: y3 :: (.int .i64 0) :: (.pointer (some ⟨eb, 0, none⟩)) :: y6 :: y7 :: y8 :: y9 :: y10 :: y11 :: y12 :: y13 :: y14 :: y15 :: y16 :: y17 :: y18 :: y19 :: y20 :: y21 :: y22 :: y23 :: y24 :: y25 :: y26 :: y27 :: y28 :: y29 :: y30 :: y31 :: y32 :: y33 :: y34 :: y35 :: y36 :: y37 :: y38 :: y39 :: y40 :: y41 :: y42 :: y43 :: y44 :: y45 :: y46 :: y47 :: y48 :: y49 :: y50 :: y51 :: y52 :: y53 :: y54 :: y55 :: y56 :: y57 :: y58 :: y59 :: y60 :: y61 :: y62 :: y63 :: y64 :: y65 :: y66 :: y67 :: y68 :: y69 :: y70 :: y71 :: y72 :: y73 :: y74 :: y75 :: y76 :: y77 :: y78 :: y79 :: y80 :: y81 :: y82 :: y83 :: y84 :: y85 :: y86 :: y87 :: y88 :: y89 :: y90 :: y91 :: y92 :: y93 :: y94 :: y95 :: y96 :: y97 :: y98 :: y99 :: y100 :: y101 :: y102 :: y103 :: y104 :: y105 :: y106 :: y107 :: y108 :: y109 :: y110 :: y111 :: y112 :: y113 :: y114 :: y115 :: y116 :: y117 :: y118 :: y119 :: y120 :: y121 :: y122 :: y123 :: y124 :: y125 :: y126 :: y127 :: y128 :: y129 :: y130 :: y131 :: y132 :: y133 :: y134 :: y135 :: y136 :: y137 :: y138 :: y139 :: y140 :: y141 :: y142 :: y143 :: y144 :: y145 :: y146 :: y147 :: y148 :: y149 :: y150 :: y151 :: y152 :: y153 :: y154 :: y155 :: y156 :: y157 :: y158 :: y159 :: y160 :: y161 :: y162 :: y163 :: y164 :: y165 :: y166 :: y167 :: y168 :: y169 :: y170 :: y171 :: y172 :: y173 :: y174 :: y175 :: y176 :: y177 :: y178 :: y179 :: y180 :: y181 :: y182 :: y183 :: y184 :: y185 :: y186 :: y187 :: y188 :: y189 :: y190 :: y191 :: y192 :: y193 :: y194 :: y195 :: y196 :: y197 :: y198 :: y199 :: y200 :: y201 :: y202 :: y203 :: y204 :: y205 :: y206 :: y207 :: y208 :: y209 :: y210 :: y211 :: y212 :: y213 :: y214 :: y215 :: y216 :: y217 :: y218 :: y219 :: y220 :: y221 :: [])), []⟩ w')
    (x2 x3 x6 x7 x9 x10 x11 x12 x13 x14 x15 x16 x17 x18 x19 x20 x21 x22 x23 x24 x25 x26 x27 x28 x29 x30 x31 x32 x33 x34 x35 x36 x37 x38 x39 x40 x41 x42 x43 x44 x45 x46 x47 x48 x49 x50 x51 x52 x53 x54 x55 x56 x57 x58 x59 x60 x61 x62 x63 x64 x65 x66 x67 x68 x69 x70 x71 x72 x73 x74 x75 x76 x77 x78 x79 x80 x81 x82 x83 x84 x85 x86 x87 x88 x89 x90 x91 x92 x93 x94 x95 x96 x97 x98 x99 x100 x101 x102 x103 x104 x105 x106 x107 x108 x109 x110 x111 x112 x113 x114 x115 x116 x117 x118 x119 x120 x121 x122 x123 x124 x125 x126 x127 x128 x129 x130 x131 x132 x133 x134 x135 x136 x137 x138 x139 x140 x141 x142 x143 x144 x145 x146 x147 x148 x149 x150 x151 x152 x153 x154 x155 x156 x157 x158 x159 x160 x161 x162 x163 x164 x165 x166 x167 x168 x169 x170 x171 x172 x173 x174 x175 x176 x177 x178 x179 x180 x181 x182 x183 x184 x185 x186 x187 x188 x189 x190 x191 x192 x193 x194 x195 x196 x197 x198 x199 x200 x201 x202 x203 x204 x205 x206 x207 x208 x209 x210 x211 x212 x213 x214 x215 x216 x217 x218 x219 x220 x221 : Value) :
    Code.wp Tryz.prog (Code.loop (eeBody 1)) Q0 ⟨(List.toArray ((v0) :: (v1) :: x2 :: x3 :: (.int .i64 0) :: (.pointer (some ⟨eb, 0, none⟩)) :: x6 :: x7 :: (.int .i64 0) :: x9 :: x10 :: x11 :: x12 :: x13 :: x14 :: x15 :: x16 :: x17 :: x18 :: x19 :: x20 :: x21 :: x22 :: x23 :: x24 :: x25 :: x26 :: x27 :: x28 :: x29 :: x30 :: x31 :: x32 :: x33 :: x34 :: x35 :: x36 :: x37 :: x38 :: x39 :: x40 :: x41 :: x42 :: x43 :: x44 :: x45 :: x46 :: x47 :: x48 :: x49 :: x50 :: x51 :: x52 :: x53 :: x54 :: x55 :: x56 :: x57 :: x58 :: x59 :: x60 :: x61 :: x62 :: x63 :: x64 :: x65 :: x66 :: x67 :: x68 :: x69 :: x70 :: x71 :: x72 :: x73 :: x74 :: x75 :: x76 :: x77 :: x78 :: x79 :: x80 :: x81 :: x82 :: x83 :: x84 :: x85 :: x86 :: x87 :: x88 :: x89 :: x90 :: x91 :: x92 :: x93 :: x94 :: x95 :: x96 :: x97 :: x98 :: x99 :: x100 :: x101 :: x102 :: x103 :: x104 :: x105 :: x106 :: x107 :: x108 :: x109 :: x110 :: x111 :: x112 :: x113 :: x114 :: x115 :: x116 :: x117 :: x118 :: x119 :: x120 :: x121 :: x122 :: x123 :: x124 :: x125 :: x126 :: x127 :: x128 :: x129 :: x130 :: x131 :: x132 :: x133 :: x134 :: x135 :: x136 :: x137 :: x138 :: x139 :: x140 :: x141 :: x142 :: x143 :: x144 :: x145 :: x146 :: x147 :: x148 :: x149 :: x150 :: x151 :: x152 :: x153 :: x154 :: x155 :: x156 :: x157 :: x158 :: x159 :: x160 :: x161 :: x162 :: x163 :: x164 :: x165 :: x166 :: x167 :: x168 :: x169 :: x170 :: x171 :: x172 :: x173 :: x174 :: x175 :: x176 :: x177 :: x178 :: x179 :: x180 :: x181 :: x182 :: x183 :: x184 :: x185 :: x186 :: x187 :: x188 :: x189 :: x190 :: x191 :: x192 :: x193 :: x194 :: x195 :: x196 :: x197 :: x198 :: x199 :: x200 :: x201 :: x202 :: x203 :: x204 :: x205 :: x206 :: x207 :: x208 :: x209 :: x210 :: x211 :: x212 :: x213 :: x214 :: x215 :: x216 :: x217 :: x218 :: x219 :: x220 :: x221 :: [])), []⟩ wr0 := by
  have HRET := Lib.hid hret
  have HEXIT := Lib.hid hexit
  obtain ⟨e1, e2, e3, e4, e5⟩ := hE
  clear hret hexit
  conv => arg 2; arg 1; whnf
  go_loopw [4, 8] (fun s4 s8 wr => ∃ k : Nat, k ≤ E.points.length ∧ s4 = .int .i64 0 ∧ s8 = .int .i64 k ∧ Hid (∀ j, j < k → ptE E.points j = 0) ∧ Hid (EB w R E vp vg ve vf vl eb wr)) (fun _ s8 _ => E.points.length - (intOf s8).toNat)
  case atStart => exact ⟨0, Nat.zero_le _, rfl, rfl, fun j h => by omega, he0⟩
  case round =>
    obtain ⟨k, hk, rfl, rfl, hall, he⟩ := hrel
    clear he0
    obtain ⟨c0, c1, c2, c3, c4, c5, c6, c7, c8, c9⟩ := he.out.cells
    obtain ⟨ap, kp, hvp⟩ := he.out.sl.p.val
    rw [hvp] at c2
    have HVP := Lib.hid hvp
    clear hvp c0 c1 c3 c4 c5 c6 c7 c8 c9
    by_cases hlt : k < E.points.length
    · have hsl := he.out.sl.p
      rw [HVP.out] at hsl
      obtain ⟨b, off, rfl, hRb, hb, hc⟩ := str_cells hsl (by omega)
      have q0 := hc k hlt
      have HP := Lib.hid (ptE_at hlt)
      have HSL := Lib.hid hsl
      clear hc hsl
      go_wp2_with fail
      refine (isName_any _ wr).mono ?_
      rintro e w' ⟨rfl, rfl⟩
      cases hnm : isNameB E.points[k] with
      | false =>
        have h4 : ptE E.points k = 4 := by rw [HP.out, if_pos hnm]
        have hv : ptsE E.points = 4 := by rw [ptsE_hit hlt (by omega) hall.out, h4]
        have HV := Lib.hid hv
        clear hnm h4 hv
        go_wp2_with fail
        have hr := HRET.out
        rw [HV.out] at hr
        exact hr _ _ _ _ _ _ _ _ _ _ _ _ _ _ _ _ _ _ _ _ _ _ _ _ _ _ _ _ _ _ _ _ _ _ _ _ _ _ _ _ _ _ _ _ _ _ _ _ _ _ _ _ _ _ _ _ _ _ _ _ _ _ _ _ _ _ _ _ _ _ _ _ _ _ _ _ _ _ _ _ _ _ _ _ _ _ _ _ _ _ _ _ _ _ _ _ _ _ _ _ _ _ _ _ _ _ _ _ _ _ _ _ _ _ _ _ _ _ _ _ _ _ _ _ _ _ _ _ _ _ _ _ _ _ _ _ _ _ _ _ _ _ _ _ _ _ _ _ _ _ _ _ _ _ _ _ _ _ _ _ _ _ _ _ _ _ _ _ _ _ _ _ _ _ _ _ _ _ _ _ _ _ _ _ _ _ _ _ _ _ _ _ _ _ _ _ _ _ _ _ _ _ _ _ _ _ _ _ _ _ _ _ _ _ _ _ _ _ _ _ _ _ (by decide) he.out.bel
      | true =>
        have hT : Hid (∀ n, Calls Tryz.prog 51 #[.slice (some ⟨b, off, none⟩) E.points.length kp, .string E.points[k]] (wr.drewN n) fun e w' => e = .returned (.int .i64 (sidxOf E.points E.points[k])) ∧ wr.drewN n = w') := (show ∀ n, Calls Tryz.prog 51 #[.slice (some ⟨b, off, none⟩) E.points.length kp, .string E.points[k]] (wr.drewN n) fun e w' => e = .returned (.int .i64 (sidxOf E.points E.points[k])) ∧ wr.drewN n = w' from fun n => rIndex_any R E.points _ _ _ (HSL.out.keep (keep_drewN n (Keep.refl (fun _ => False) wr)) (fun _ _ h => h)))
        have HNM := Lib.hid hnm
        clear hnm
        by_cases hix : sidxOf E.points E.points[k] < (k : Int)
        · have h6 : ptE E.points k = 6 := by rw [HP.out, if_neg (by rw [HNM.out]; decide), if_pos hix]
          have hv : ptsE E.points = 6 := by rw [ptsE_hit hlt (by omega) hall.out, h6]
          have HV := Lib.hid hv
          clear h6 hv
          go_wp2_with fail
          go_quiet ((go_at_call 51; exact quiet_of_eqE (hT.out _)))
          go_wp2_with fail
          have hr := HRET.out
          rw [HV.out] at hr
          exact hr _ _ _ _ _ _ _ _ _ _ _ _ _ _ _ _ _ _ _ _ _ _ _ _ _ _ _ _ _ _ _ _ _ _ _ _ _ _ _ _ _ _ _ _ _ _ _ _ _ _ _ _ _ _ _ _ _ _ _ _ _ _ _ _ _ _ _ _ _ _ _ _ _ _ _ _ _ _ _ _ _ _ _ _ _ _ _ _ _ _ _ _ _ _ _ _ _ _ _ _ _ _ _ _ _ _ _ _ _ _ _ _ _ _ _ _ _ _ _ _ _ _ _ _ _ _ _ _ _ _ _ _ _ _ _ _ _ _ _ _ _ _ _ _ _ _ _ _ _ _ _ _ _ _ _ _ _ _ _ _ _ _ _ _ _ _ _ _ _ _ _ _ _ _ _ _ _ _ _ _ _ _ _ _ _ _ _ _ _ _ _ _ _ _ _ _ _ _ _ _ _ _ _ _ _ _ _ _ _ _ _ _ _ _ _ _ _ _ _ _ _ _ (by decide) (below_drewN' _ he.out.bel)
        · have h0 : ptE E.points k = 0 := by rw [HP.out, if_neg (by rw [HNM.out]; decide), if_neg hix]
          have H0 := Lib.hid h0
          clear h0
          go_wp2_with fail
          go_quiet ((go_at_call 51; exact quiet_of_eqE (hT.out _)))
          go_wp2_with fail
          go_roundw
          case rel => exact ⟨k + 1, by omega, rfl, by go_num, (show ∀ j, j < k + 1 → ptE E.points j = 0 from fun j hj => by
            by_cases e : j = k
            · subst e; exact H0.out
            · exact hall.out j (by omega)), he.out.keep (keep_drewN _ (Keep.refl (fun _ => False) _)) (fun _ h _ => h.elim)⟩
          case measure => simp [intOf]; omega
    · have hv := Lib.hid (ptsE_miss (P := E.points) (fun j hj => hall.out j (by omega)))
      go_wp2_with fail
      exact HEXIT.out _ _ _ _ _ _ _ _ _ _ _ _ _ _ _ _ _ _ _ _ _ _ _ _ _ _ _ _ _ _ _ _ _ _ _ _ _ _ _ _ _ _ _ _ _ _ _ _ _ _ _ _ _ _ _ _ _ _ _ _ _ _ _ _ _ _ _ _ _ _ _ _ _ _ _ _ _ _ _ _ _ _ _ _ _ _ _ _ _ _ _ _ _ _ _ _ _ _ _ _ _ _ _ _ _ _ _ _ _ _ _ _ _ _ _ _ _ _ _ _ _ _ _ _ _ _ _ _ _ _ _ _ _ _ _ _ _ _ _ _ _ _ _ _ _ _ _ _ _ _ _ _ _ _ _ _ _ _ _ _ _ _ _ _ _ _ _ _ _ _ _ _ _ _ _ _ _ _ _ _ _ _ _ _ _ _ _ _ _ _ _ _ _ _ _ _ _ _ _ _ _ _ _ _ _ _ _ _ _ _ _ _ _ _ _ _ _ _ _ hv.out he.out

set_option maxRecDepth 100000 in
set_option maxHeartbeats 4000000 in
theorem ee_gaps (R : Nat → Prop) (E : EntV) (vp vg ve vf vl : Value) (eb : Nat) (v0 v1 : Value) (w wr0 : World) (hE : EntSmall E) (he0 : Hid (EB w R E vp vg ve vf vl eb wr0)) (Q0 : Exit → Act → World → Prop)
    (hret : ∀ (y0 y1 y2 y3 y5 y6 y7 y8 y9 y10 y11 y12 y13 y14 y15 y16 y17 y18 y19 y20 y21 y22 y23 y24 y25 y26 y27 y28 y29 y30 y31 y32 y33 y34 y35 y36 y37 y38 y39 y40 y41 y42 y43 y44 y45 y46 y47 y48 y49 y50 y51 y52 y53 y54 y55 y56 y57 y58 y59 y60 y61 y62 y63 y64 y65 y66 y67 y68 y69 y70 y71 y72 y73 y74 y75 y76 y77 y78 y79 y80 y81 y82 y83 y84 y85 y86 y87 y88 y89 y90 y91 y92 y93 y94 y95 y96 y97 y98 y99 y100 y101 y102 y103 y104 y105 y106 y107 y108 y109 y110 y111 y112 y113 y114 y115 y116 y117 y118 y119 y120 y121 y122 y123 y124 y125 y126 y127 y128 y129 y130 y131 y132 y133 y134 y135 y136 y137 y138 y139 y140 y141 y142 y143 y144 y145 y146 y147 y148 y149 y150 y151 y152 y153 y154 y155 y156 y157 y158 y159 y160 y161 y162 y163 y164 y165 y166 y167 y168 y169 y170 y171 y172 y173 y174 y175 y176 y177 y178 y179 y180 y181 y182 y183 y184 y185 y186 y187 y188 y189 y190 y191 y192 y193 y194 y195 y196 y197 y198 y199 y200 y201 y202 y203 y204 y205 y206 y207 y208 y209 y210 y211 y212 y213 y214 y215 y216 y217 y218 y219 y220 y221 : Value) (w' : World), E.gaps.any gapWrong = true → Below w.heap.size w w' → Q0 .ret ⟨(List.toArray (y0 :: y1 :: y2 :: y3 :: (.int .i64 2) :: y5 :: y6 :: y7 :: y8 :: y9 :: y10 :: y11 :: y12 :: y13 :: y14 :: y15 :: y16 :: y17 :: y18 :: y19 :: y20 :: y21 :: y22 :: y23 :: y24 :: y25 :: y26 :: y27 :: y28 :: y29 :: y30 :: y31 :: y32 :: y33 :: y34 :: y35 :: y36 :: y37 :: y38 :: y39 :: y40 :: y41 :: y42 :: y43 :: y44 :: y45 :: y46 :: y47 :: y48 :: y49 :: y50 :: y51 :: y52 :: y53 :: y54 :: y55 :: y56 :: y57 :: y58 :: y59 :: y60 :: y61 :: y62 :: y63 :: y64 :: y65 :: y66 :: y67 :: y68 :: y69 :: y70 :: y71 :: y72 :: y73 :: y74 :: y75 :: y76 :: y77 :: y78 :: y79 :: y80 :: y81 :: y82 :: y83 :: y84 :: y85 :: y86 :: y87 :: y88 :: y89 :: y90 :: y91 :: y92 :: y93 :: y94 :: y95 :: y96 :: y97 :: y98 :: y99 :: y100 :: y101 :: y102 :: y103 :: y104 :: y105 :: y106 :: y107 :: y108 :: y109 :: y110 :: y111 :: y112 :: y113 :: y114 :: y115 :: y116 :: y117 :: y118 :: y119 :: y120 :: y121 :: y122 :: y123 :: y124 :: y125 :: y126 :: y127 :: y128 :: y129 :: y130 :: y131 :: y132 :: y133 :: y134 :: y135 :: y136 :: y137 :: y138 :: y139 :: y140 :: y141 :: y142 :: y143 :: y144 :: y145 :: y146 :: y147 :: y148 :: y149 :: y150 :: y151 :: y152 :: y153 :: y154 :: y155 :: y156 :: y157 :: y158 :: y159 :: y160 :: y161 :: y162 :: y163 :: y164 :: y165 :: y166 :: y167 :: y168 :: y169 :: y170 :: y171 :: y172 :: y173 :: y174 :: y175 :: y176 :: y177 :: y178 :: y179 :: y180 :: y181 :: y182 :: y183 :: y184 :: y185 :: y186 :: y187 :: y188 :: y189 :: y190 :: y191 :: y192 :: y193 :: y194 :: y195 :: y196 :: y197 :: y198 :: y199 :: y200 :: y201 :: y202 :: y203 :: y204 :: y205 :: y206 :: y207 :: y208 :: y209 :: y210 :: y211 :: y212 :: y213 :: y214 :: y215 :: y216 :: y217 :: y218 :: y219 :: y220 :: y221 :: [])), []⟩ w')
    (hexit : ∀ (y2 y3 y6 y7 y8 y9 y10 y11 y12 y13 y14 y15 y16 y17 y18 y19 y20 y21 y22 y23 y24 y25 y26 y27 y28 y29 y30 y31 y32 y33 y34 y35 y36 y37 y38 y39 y40 y41 y42 y43 y44 y45 y46 y47 y48 y49 y50 y51 y52 y53 y54 y55 y56 y57 y58 y59 y60 y61 y62 y63 y64 y65 y66 y67 y68 y69 y70 y71 y72 y73 y74 y75 y76 y77 y78 y79 y80 y81 y82 y83 y84 y85 y86 y87 y88 y89 y90 y91 y92 y93 y94 y95 y96 y97 y98 y99 y100 y101 y102 y103 y104 y105 y106 y107 y108 y109 y110 y111 y112 y113 y114 y115 y116 y117 y118 y119 y120 y121 y122 y123 y124 y125 y126 y127 y128 y129 y130 y131 y132 y133 y134 y135 y136 y137 y138 y139 y140 y141 y142 y143 y144 y145 y146 y147 y148 y149 y150 y151 y152 y153 y154 y155 y156 y157 y158 y159 y160 y161 y162 y163 y164 y165 y166 y167 y168 y169 y170 y171 y172 y173 y174 y175 y176 y177 y178 y179 y180 y181 y182 y183 y184 y185 y186 y187 y188 y189 y190 y191 y192 y193 y194 y195 y196 y197 y198 y199 y200 y201 y202 y203 y204 y205 y206 y207 y208 y209 y210 y211 y212 y213 y214 y215 y216 y217 y218 y219 y220 y221 : Value) (w' : World), E.gaps.any gapWrong = false → EB w R E vp vg ve vf vl eb w' → Q0 (.exit 4) ⟨(List.toArray ((v0) :: (v1) :: y2 :: y3 :: (.int .i64 0) :: (.pointer (some ⟨eb, 0, none⟩)) :: y6 :: y7 :: y8 :: y9 :: y10 :: y11 :: y12 :: y13 :: y14 :: y15 :: y16 :: y17 :: y18 :: y19 :: y20 :: y21 :: y22 :: y23 :: y24 :: y25 :: y26 :: y27 :: y28 :: y29 :: y30 :: y31 :: y32 :: y33 :: y34 :: y35 :: y36 :: y37 :: y38 :: y39 :: y40 :: y41 :: y42 :: y43 :: y44 :: y45 :: y46 :: y47 :: y48 :: y49 :: y50 :: y51 :: y52 :: y53 :: y54 :: y55 :: y56 :: y57 :: y58 :: y59 :: y60 :: y61 :: y62 :: y63 :: y64 :: y65 :: y66 :: y67 :: y68 :: y69 :: y70 :: y71 :: y72 :: y73 :: y74 :: y75 :: y76 :: y77 :: y78 :: y79 :: y80 :: y81 :: y82 :: y83 :: y84 :: y85 :: y86 :: y87 :: y88 :: y89 :: y90 :: y91 :: y92 :: y93 :: y94 :: y95 :: y96 :: y97 :: y98 :: y99 :: y100 :: y101 :: y102 :: y103 :: y104 :: y105 :: y106 :: y107 :: y108 :: y109 :: y110 :: y111 :: y112 :: y113 :: y114 :: y115 :: y116 :: y117 :: y118 :: y119 :: y120 :: y121 :: y122 :: y123 :: y124 :: y125 :: y126 :: y127 :: y128 :: y129 :: y130 :: y131 :: y132 :: y133 :: y134 :: y135 :: y136 :: y137 :: y138 :: y139 :: y140 :: y141 :: y142 :: y143 :: y144 :: y145 :: y146 :: y147 :: y148 :: y149 :: y150 :: y151 :: y152 :: y153 :: y154 :: y155 :: y156 :: y157 :: y158 :: y159 :: y160 :: y161 :: y162 :: y163 :: y164 :: y165 :: y166 :: y167 :: y168 :: y169 :: y170 :: y171 :: y172 :: y173 :: y174 :: y175 :: y176 :: y177 :: y178 :: y179 :: y180 :: y181 :: y182 :: y183 :: y184 :: y185 :: y186 :: y187 :: y188 :: y189 :: y190 :: y191 :: y192 :: y193 :: y194 :: y195 :: y196 :: y197 :: y198 :: y199 :: y200 :: y201 :: y202 :: y203 :: y204 :: y205 :: y206 :: y207 :: y208 :: y209 :: y210 :: y211 :: y212 :: y213 :: y214 :: y215 :: y216 :: y217 :: y218 :: y219 :: y220 :: y221 :: [])), []⟩ w')
    (x2 x3 x6 x7 x8 x9 x10 x12 x13 x14 x15 x16 x17 x18 x19 x20 x21 x22 x23 x24 x25 x26 x27 x28 x29 x30 x31 x32 x33 x34 x35 x36 x37 x38 x39 x40 x41 x42 x43 x44 x45 x46 x47 x48 x49 x50 x51 x52 x53 x54 x55 x56 x57 x58 x59 x60 x61 x62 x63 x64 x65 x66 x67 x68 x69 x70 x71 x72 x73 x74 x75 x76 x77 x78 x79 x80 x81 x82 x83 x84 x85 x86 x87 x88 x89 x90 x91 x92 x93 x94 x95 x96 x97 x98 x99 x100 x101 x102 x103 x104 x105 x106 x107 x108 x109 x110 x111 x112 x113 x114 x115 x116 x117 x118 x119 x120 x121 x122 x123 x124 x125 x126 x127 x128 x129 x130 x131 x132 x133 x134 x135 x136 x137 x138 x139 x140 x141 x142 x143 x144 x145 x146 x147 x148 x149 x150 x151 x152 x153 x154 x155 x156 x157 x158 x159 x160 x161 x162 x163 x164 x165 x166 x167 x168 x169 x170 x171 x172 x173 x174 x175 x176 x177 x178 x179 x180 x181 x182 x183 x184 x185 x186 x187 x188 x189 x190 x191 x192 x193 x194 x195 x196 x197 x198 x199 x200 x201 x202 x203 x204 x205 x206 x207 x208 x209 x210 x211 x212 x213 x214 x215 x216 x217 x218 x219 x220 x221 : Value) :
    Code.wp Tryz.prog (Code.loop (eeBody 2)) Q0 ⟨(List.toArray ((v0) :: (v1) :: x2 :: x3 :: (.int .i64 0) :: (.pointer (some ⟨eb, 0, none⟩)) :: x6 :: x7 :: x8 :: x9 :: x10 :: (.int .i64 0) :: x12 :: x13 :: x14 :: x15 :: x16 :: x17 :: x18 :: x19 :: x20 :: x21 :: x22 :: x23 :: x24 :: x25 :: x26 :: x27 :: x28 :: x29 :: x30 :: x31 :: x32 :: x33 :: x34 :: x35 :: x36 :: x37 :: x38 :: x39 :: x40 :: x41 :: x42 :: x43 :: x44 :: x45 :: x46 :: x47 :: x48 :: x49 :: x50 :: x51 :: x52 :: x53 :: x54 :: x55 :: x56 :: x57 :: x58 :: x59 :: x60 :: x61 :: x62 :: x63 :: x64 :: x65 :: x66 :: x67 :: x68 :: x69 :: x70 :: x71 :: x72 :: x73 :: x74 :: x75 :: x76 :: x77 :: x78 :: x79 :: x80 :: x81 :: x82 :: x83 :: x84 :: x85 :: x86 :: x87 :: x88 :: x89 :: x90 :: x91 :: x92 :: x93 :: x94 :: x95 :: x96 :: x97 :: x98 :: x99 :: x100 :: x101 :: x102 :: x103 :: x104 :: x105 :: x106 :: x107 :: x108 :: x109 :: x110 :: x111 :: x112 :: x113 :: x114 :: x115 :: x116 :: x117 :: x118 :: x119 :: x120 :: x121 :: x122 :: x123 :: x124 :: x125 :: x126 :: x127 :: x128 :: x129 :: x130 :: x131 :: x132 :: x133 :: x134 :: x135 :: x136 :: x137 :: x138 :: x139 :: x140 :: x141 :: x142 :: x143 :: x144 :: x145 :: x146 :: x147 :: x148 :: x149 :: x150 :: x151 :: x152 :: x153 :: x154 :: x155 :: x156 :: x157 :: x158 :: x159 :: x160 :: x161 :: x162 :: x163 :: x164 :: x165 :: x166 :: x167 :: x168 :: x169 :: x170 :: x171 :: x172 :: x173 :: x174 :: x175 :: x176 :: x177 :: x178 :: x179 :: x180 :: x181 :: x182 :: x183 :: x184 :: x185 :: x186 :: x187 :: x188 :: x189 :: x190 :: x191 :: x192 :: x193 :: x194 :: x195 :: x196 :: x197 :: x198 :: x199 :: x200 :: x201 :: x202 :: x203 :: x204 :: x205 :: x206 :: x207 :: x208 :: x209 :: x210 :: x211 :: x212 :: x213 :: x214 :: x215 :: x216 :: x217 :: x218 :: x219 :: x220 :: x221 :: [])), []⟩ wr0 := by
  have HRET := Lib.hid hret
  have HEXIT := Lib.hid hexit
  obtain ⟨e1, e2, e3, e4, e5⟩ := hE
  clear hret hexit
  conv => arg 2; arg 1; whnf
  go_loopw [4, 11] (fun s4 s11 wr => ∃ k : Nat, k ≤ E.gaps.length ∧ s4 = .int .i64 0 ∧ s11 = .int .i64 k ∧ Hid (∀ j (hj : j < E.gaps.length), j < k → gapWrong E.gaps[j] = false) ∧ Hid (EB w R E vp vg ve vf vl eb wr)) (fun _ s11 _ => E.gaps.length - (intOf s11).toNat)
  case atStart => exact ⟨0, Nat.zero_le _, rfl, rfl, fun j _ h => by omega, he0⟩
  case round =>
    obtain ⟨k, hk, rfl, rfl, hall, he⟩ := hrel
    clear he0
    obtain ⟨c0, c1, c2, c3, c4, c5, c6, c7, c8, c9⟩ := he.out.cells
    obtain ⟨ag, kg, hvg⟩ := he.out.sl.g.val
    rw [hvg] at c6
    have HVG := Lib.hid hvg
    clear hvg c0 c1 c2 c3 c4 c5 c7 c8 c9
    by_cases hlt : k < E.gaps.length
    · have hsl := he.out.sl.g
      rw [HVG.out] at hsl
      obtain ⟨b, off, hag, hRb, hb, hc⟩ := hsl.elem (fun _ => rfl) (by decide) (by omega)
      have hag2 : ag = some ⟨b, off, none⟩ := hag
      subst hag2
      have q0 := hc k hlt 0 _ rfl
      have q1 := hc k hlt 1 _ rfl
      have q2 := hc k hlt 2 _ rfl
      have q3 := hc k hlt 3 _ rfl
      rw [Nat.add_zero] at q0
      clear hc hsl hag
      by_cases h1 : E.gaps[k].mn < 0
      ·
        have HB := Lib.hid (show E.gaps.any gapWrong = true from List.any_eq_true.2 ⟨_, List.getElem_mem hlt, (show gapWrong E.gaps[k] = true from decide_eq_true (by omega))⟩)
        go_wp2_with fail
        exact HRET.out _ _ _ _ _ _ _ _ _ _ _ _ _ _ _ _ _ _ _ _ _ _ _ _ _ _ _ _ _ _ _ _ _ _ _ _ _ _ _ _ _ _ _ _ _ _ _ _ _ _ _ _ _ _ _ _ _ _ _ _ _ _ _ _ _ _ _ _ _ _ _ _ _ _ _ _ _ _ _ _ _ _ _ _ _ _ _ _ _ _ _ _ _ _ _ _ _ _ _ _ _ _ _ _ _ _ _ _ _ _ _ _ _ _ _ _ _ _ _ _ _ _ _ _ _ _ _ _ _ _ _ _ _ _ _ _ _ _ _ _ _ _ _ _ _ _ _ _ _ _ _ _ _ _ _ _ _ _ _ _ _ _ _ _ _ _ _ _ _ _ _ _ _ _ _ _ _ _ _ _ _ _ _ _ _ _ _ _ _ _ _ _ _ _ _ _ _ _ _ _ _ _ _ _ _ _ _ _ _ _ _ _ _ _ _ _ _ _ _ _ _ _ HB.out (he.out.bel.alloc he.out.bel.size _)
      by_cases h2 : E.gaps[k].mx < E.gaps[k].mn
      ·
        have HB := Lib.hid (show E.gaps.any gapWrong = true from List.any_eq_true.2 ⟨_, List.getElem_mem hlt, (show gapWrong E.gaps[k] = true from decide_eq_true (by omega))⟩)
        go_wp2_with fail
        exact HRET.out _ _ _ _ _ _ _ _ _ _ _ _ _ _ _ _ _ _ _ _ _ _ _ _ _ _ _ _ _ _ _ _ _ _ _ _ _ _ _ _ _ _ _ _ _ _ _ _ _ _ _ _ _ _ _ _ _ _ _ _ _ _ _ _ _ _ _ _ _ _ _ _ _ _ _ _ _ _ _ _ _ _ _ _ _ _ _ _ _ _ _ _ _ _ _ _ _ _ _ _ _ _ _ _ _ _ _ _ _ _ _ _ _ _ _ _ _ _ _ _ _ _ _ _ _ _ _ _ _ _ _ _ _ _ _ _ _ _ _ _ _ _ _ _ _ _ _ _ _ _ _ _ _ _ _ _ _ _ _ _ _ _ _ _ _ _ _ _ _ _ _ _ _ _ _ _ _ _ _ _ _ _ _ _ _ _ _ _ _ _ _ _ _ _ _ _ _ _ _ _ _ _ _ _ _ _ _ _ _ _ _ _ _ _ _ _ _ _ _ _ _ _ HB.out (he.out.bel.alloc he.out.bel.size _)
      by_cases h3 : 1099511627776 < E.gaps[k].mx
      ·
        have HB := Lib.hid (show E.gaps.any gapWrong = true from List.any_eq_true.2 ⟨_, List.getElem_mem hlt, (show gapWrong E.gaps[k] = true from decide_eq_true (by omega))⟩)
        go_wp2_with fail
        exact HRET.out _ _ _ _ _ _ _ _ _ _ _ _ _ _ _ _ _ _ _ _ _ _ _ _ _ _ _ _ _ _ _ _ _ _ _ _ _ _ _ _ _ _ _ _ _ _ _ _ _ _ _ _ _ _ _ _ _ _ _ _ _ _ _ _ _ _ _ _ _ _ _ _ _ _ _ _ _ _ _ _ _ _ _ _ _ _ _ _ _ _ _ _ _ _ _ _ _ _ _ _ _ _ _ _ _ _ _ _ _ _ _ _ _ _ _ _ _ _ _ _ _ _ _ _ _ _ _ _ _ _ _ _ _ _ _ _ _ _ _ _ _ _ _ _ _ _ _ _ _ _ _ _ _ _ _ _ _ _ _ _ _ _ _ _ _ _ _ _ _ _ _ _ _ _ _ _ _ _ _ _ _ _ _ _ _ _ _ _ _ _ _ _ _ _ _ _ _ _ _ _ _ _ _ _ _ _ _ _ _ _ _ _ _ _ _ _ _ _ _ _ _ _ HB.out (he.out.bel.alloc he.out.bel.size _)
      have hok := Lib.hid (show gapWrong E.gaps[k] = false from decide_eq_false (by omega))
      have he2 := Lib.hid (he.out.below ((Below.refl _ _).alloc (Nat.le_refl _) (.cells #[.int .i64 E.gaps[k].fr, .int .i64 E.gaps[k].dst, .int .i64 E.gaps[k].mn, .int .i64 E.gaps[k].mx] 96)))
      go_wp2_with fail
      go_roundw
      case rel => exact ⟨k + 1, by omega, rfl, by go_num, (show ∀ j (hj : j < E.gaps.length), j < k + 1 → gapWrong E.gaps[j] = false from fun j hj hji => by
        by_cases e : j = k
        · subst e; exact hok.out
        · exact hall.out j hj (by omega)), he2⟩
      case measure => simp [intOf]; omega
    · have hv := Lib.hid (show E.gaps.any gapWrong = false from List.any_eq_false.2 (fun x hx => by
        obtain ⟨j, hj, rfl⟩ := List.mem_iff_getElem.1 hx
        rw [hall.out j hj (by omega)]; decide))
      go_wp2_with fail
      exact HEXIT.out _ _ _ _ _ _ _ _ _ _ _ _ _ _ _ _ _ _ _ _ _ _ _ _ _ _ _ _ _ _ _ _ _ _ _ _ _ _ _ _ _ _ _ _ _ _ _ _ _ _ _ _ _ _ _ _ _ _ _ _ _ _ _ _ _ _ _ _ _ _ _ _ _ _ _ _ _ _ _ _ _ _ _ _ _ _ _ _ _ _ _ _ _ _ _ _ _ _ _ _ _ _ _ _ _ _ _ _ _ _ _ _ _ _ _ _ _ _ _ _ _ _ _ _ _ _ _ _ _ _ _ _ _ _ _ _ _ _ _ _ _ _ _ _ _ _ _ _ _ _ _ _ _ _ _ _ _ _ _ _ _ _ _ _ _ _ _ _ _ _ _ _ _ _ _ _ _ _ _ _ _ _ _ _ _ _ _ _ _ _ _ _ _ _ _ _ _ _ _ _ _ _ _ _ _ _ _ _ _ _ _ _ _ _ _ _ _ _ _ hv.out he.out

set_option maxRecDepth 100000 in
set_option maxHeartbeats 4000000 in
theorem ee_edges (R : Nat → Prop) (E : EntV) (vp vg ve vf vl : Value) (eb : Nat) (v0 v1 : Value) (w wr0 : World) (hE : EntSmall E) (he0 : Hid (EB w R E vp vg ve vf vl eb wr0)) (Q0 : Exit → Act → World → Prop)
    (hret : ∀ (y0 y1 y2 y3 y5 y6 y7 y8 y9 y10 y11 y12 y13 y14 y15 y16 y17 y18 y19 y20 y21 y22 y23 y24 y25 y26 y27 y28 y29 y30 y31 y32 y33 y34 y35 y36 y37 y38 y39 y40 y41 y42 y43 y44 y45 y46 y47 y48 y49 y50 y51 y52 y53 y54 y55 y56 y57 y58 y59 y60 y61 y62 y63 y64 y65 y66 y67 y68 y69 y70 y71 y72 y73 y74 y75 y76 y77 y78 y79 y80 y81 y82 y83 y84 y85 y86 y87 y88 y89 y90 y91 y92 y93 y94 y95 y96 y97 y98 y99 y100 y101 y102 y103 y104 y105 y106 y107 y108 y109 y110 y111 y112 y113 y114 y115 y116 y117 y118 y119 y120 y121 y122 y123 y124 y125 y126 y127 y128 y129 y130 y131 y132 y133 y134 y135 y136 y137 y138 y139 y140 y141 y142 y143 y144 y145 y146 y147 y148 y149 y150 y151 y152 y153 y154 y155 y156 y157 y158 y159 y160 y161 y162 y163 y164 y165 y166 y167 y168 y169 y170 y171 y172 y173 y174 y175 y176 y177 y178 y179 y180 y181 y182 y183 y184 y185 y186 y187 y188 y189 y190 y191 y192 y193 y194 y195 y196 y197 y198 y199 y200 y201 y202 y203 y204 y205 y206 y207 y208 y209 y210 y211 y212 y213 y214 y215 y216 y217 y218 y219 y220 y221 : Value) (w' : World), edgesTwice E.edges = true → Below w.heap.size w w' → Q0 .ret ⟨(List.toArray (y0 :: y1 :: y2 :: y3 :: (.int .i64 6) :: y5 :: y6 :: y7 :: y8 :: y9 :: y10 :: y11 :: y12 :: y13 :: y14 :: y15 :: y16 :: y17 :: y18 :: y19 :: y20 :: y21 :: y22 :: y23 :: y24 :: y25 :: y26 :: y27 :: y28 :: y29 :: y30 :: y31 :: y32 :: y33 :: y34 :: y35 :: y36 :: y37 :: y38 :: y39 :: y40 :: y41 :: y42 :: y43 :: y44 :: y45 :: y46 :: y47 :: y48 :: y49 :: y50 :: y51 :: y52 :: y53 :: y54 :: y55 :: y56 :: y57 :: y58 :: y59 :: y60 :: y61 :: y62 :: y63 :: y64 :: y65 :: y66 :: y67 :: y68 :: y69 :: y70 :: y71 :: y72 :: y73 :: y74 :: y75 :: y76 :: y77 :: y78 :: y79 :: y80 :: y81 :: y82 :: y83 :: y84 :: y85 :: y86 :: y87 :: y88 :: y89 :: y90 :: y91 :: y92 :: y93 :: y94 :: y95 :: y96 :: y97 :: y98 :: y99 :: y100 :: y101 :: y102 :: y103 :: y104 :: y105 :: y106 :: y107 :: y108 :: y109 :: y110 :: y111 :: y112 :: y113 :: y114 :: y115 :: y116 :: y117 :: y118 :: y119 :: y120 :: y121 :: y122 :: y123 :: y124 :: y125 :: y126 :: y127 :: y128 :: y129 :: y130 :: y131 :: y132 :: y133 :: y134 :: y135 :: y136 :: y137 :: y138 :: y139 :: y140 :: y141 :: y142 :: y143 :: y144 :: y145 :: y146 :: y147 :: y148 :: y149 :: y150 :: y151 :: y152 :: y153 :: y154 :: y155 :: y156 :: y157 :: y158 :: y159 :: y160 :: y161 :: y162 :: y163 :: y164 :: y165 :: y166 :: y167 :: y168 :: y169 :: y170 :: y171 :: y172 :: y173 :: y174 :: y175 :: y176 :: y177 :: y178 :: y179 :: y180 :: y181 :: y182 :: y183 :: y184 :: y185 :: y186 :: y187 :: y188 :: y189 :: y190 :: y191 :: y192 :: y193 :: y194 :: y195 :: y196 :: y197 :: y198 :: y199 :: y200 :: y201 :: y202 :: y203 :: y204 :: y205 :: y206 :: y207 :: y208 :: y209 :: y210 :: y211 :: y212 :: y213 :: y214 :: y215 :: y216 :: y217 :: y218 :: y219 :: y220 :: y221 :: [])), []⟩ w')
    (hexit : ∀ (y2 y3 y6 y7 y8 y9 y10 y11 y12 y13 y14 y15 y16 y17 y18 y19 y20 y21 y22 y23 y24 y25 y26 y27 y28 y29 y30 y31 y32 y33 y34 y35 y36 y37 y38 y39 y40 y41 y42 y43 y44 y45 y46 y47 y48 y49 y50 y51 y52 y53 y54 y55 y56 y57 y58 y59 y60 y61 y62 y63 y64 y65 y66 y67 y68 y69 y70 y71 y72 y73 y74 y75 y76 y77 y78 y79 y80 y81 y82 y83 y84 y85 y86 y87 y88 y89 y90 y91 y92 y93 y94 y95 y96 y97 y98 y99 y100 y101 y102 y103 y104 y105 y106 y107 y108 y109 y110 y111 y112 y113 y114 y115 y116 y117 y118 y119 y120 y121 y122 y123 y124 y125 y126 y127 y128 y129 y130 y131 y132 y133 y134 y135 y136 y137 y138 y139 y140 y141 y142 y143 y144 y145 y146 y147 y148 y149 y150 y151 y152 y153 y154 y155 y156 y157 y158 y159 y160 y161 y162 y163 y164 y165 y166 y167 y168 y169 y170 y171 y172 y173 y174 y175 y176 y177 y178 y179 y180 y181 y182 y183 y184 y185 y186 y187 y188 y189 y190 y191 y192 y193 y194 y195 y196 y197 y198 y199 y200 y201 y202 y203 y204 y205 y206 y207 y208 y209 y210 y211 y212 y213 y214 y215 y216 y217 y218 y219 y220 y221 : Value) (w' : World), edgesTwice E.edges = false → EB w R E vp vg ve vf vl eb w' → Q0 (.exit 6) ⟨(List.toArray ((v0) :: (v1) :: y2 :: y3 :: (.int .i64 0) :: (.pointer (some ⟨eb, 0, none⟩)) :: y6 :: y7 :: y8 :: y9 :: y10 :: y11 :: y12 :: y13 :: y14 :: y15 :: y16 :: y17 :: y18 :: y19 :: y20 :: y21 :: y22 :: y23 :: y24 :: y25 :: y26 :: y27 :: y28 :: y29 :: y30 :: y31 :: y32 :: y33 :: y34 :: y35 :: y36 :: y37 :: y38 :: y39 :: y40 :: y41 :: y42 :: y43 :: y44 :: y45 :: y46 :: y47 :: y48 :: y49 :: y50 :: y51 :: y52 :: y53 :: y54 :: y55 :: y56 :: y57 :: y58 :: y59 :: y60 :: y61 :: y62 :: y63 :: y64 :: y65 :: y66 :: y67 :: y68 :: y69 :: y70 :: y71 :: y72 :: y73 :: y74 :: y75 :: y76 :: y77 :: y78 :: y79 :: y80 :: y81 :: y82 :: y83 :: y84 :: y85 :: y86 :: y87 :: y88 :: y89 :: y90 :: y91 :: y92 :: y93 :: y94 :: y95 :: y96 :: y97 :: y98 :: y99 :: y100 :: y101 :: y102 :: y103 :: y104 :: y105 :: y106 :: y107 :: y108 :: y109 :: y110 :: y111 :: y112 :: y113 :: y114 :: y115 :: y116 :: y117 :: y118 :: y119 :: y120 :: y121 :: y122 :: y123 :: y124 :: y125 :: y126 :: y127 :: y128 :: y129 :: y130 :: y131 :: y132 :: y133 :: y134 :: y135 :: y136 :: y137 :: y138 :: y139 :: y140 :: y141 :: y142 :: y143 :: y144 :: y145 :: y146 :: y147 :: y148 :: y149 :: y150 :: y151 :: y152 :: y153 :: y154 :: y155 :: y156 :: y157 :: y158 :: y159 :: y160 :: y161 :: y162 :: y163 :: y164 :: y165 :: y166 :: y167 :: y168 :: y169 :: y170 :: y171 :: y172 :: y173 :: y174 :: y175 :: y176 :: y177 :: y178 :: y179 :: y180 :: y181 :: y182 :: y183 :: y184 :: y185 :: y186 :: y187 :: y188 :: y189 :: y190 :: y191 :: y192 :: y193 :: y194 :: y195 :: y196 :: y197 :: y198 :: y199 :: y200 :: y201 :: y202 :: y203 :: y204 :: y205 :: y206 :: y207 :: y208 :: y209 :: y210 :: y211 :: y212 :: y213 :: y214 :: y215 :: y216 :: y217 :: y218 :: y219 :: y220 :: y221 :: [])), []⟩ w')
    (x2 x3 x6 x7 x8 x9 x10 x11 x12 x14 x15 x16 x17 x18 x19 x20 x21 x22 x23 x24 x25 x26 x27 x28 x29 x30 x31 x32 x33 x34 x35 x36 x37 x38 x39 x40 x41 x42 x43 x44 x45 x46 x47 x48 x49 x50 x51 x52 x53 x54 x55 x56 x57 x58 x59 x60 x61 x62 x63 x64 x65 x66 x67 x68 x69 x70 x71 x72 x73 x74 x75 x76 x77 x78 x79 x80 x81 x82 x83 x84 x85 x86 x87 x88 x89 x90 x91 x92 x93 x94 x95 x96 x97 x98 x99 x100 x101 x102 x103 x104 x105 x106 x107 x108 x109 x110 x111 x112 x113 x114 x115 x116 x117 x118 x119 x120 x121 x122 x123 x124 x125 x126 x127 x128 x129 x130 x131 x132 x133 x134 x135 x136 x137 x138 x139 x140 x141 x142 x143 x144 x145 x146 x147 x148 x149 x150 x151 x152 x153 x154 x155 x156 x157 x158 x159 x160 x161 x162 x163 x164 x165 x166 x167 x168 x169 x170 x171 x172 x173 x174 x175 x176 x177 x178 x179 x180 x181 x182 x183 x184 x185 x186 x187 x188 x189 x190 x191 x192 x193 x194 x195 x196 x197 x198 x199 x200 x201 x202 x203 x204 x205 x206 x207 x208 x209 x210 x211 x212 x213 x214 x215 x216 x217 x218 x219 x220 x221 : Value) :
    Code.wp Tryz.prog (Code.loop (eeBody 3)) Q0 ⟨(List.toArray ((v0) :: (v1) :: x2 :: x3 :: (.int .i64 0) :: (.pointer (some ⟨eb, 0, none⟩)) :: x6 :: x7 :: x8 :: x9 :: x10 :: x11 :: x12 :: (.int .i64 0) :: x14 :: x15 :: x16 :: x17 :: x18 :: x19 :: x20 :: x21 :: x22 :: x23 :: x24 :: x25 :: x26 :: x27 :: x28 :: x29 :: x30 :: x31 :: x32 :: x33 :: x34 :: x35 :: x36 :: x37 :: x38 :: x39 :: x40 :: x41 :: x42 :: x43 :: x44 :: x45 :: x46 :: x47 :: x48 :: x49 :: x50 :: x51 :: x52 :: x53 :: x54 :: x55 :: x56 :: x57 :: x58 :: x59 :: x60 :: x61 :: x62 :: x63 :: x64 :: x65 :: x66 :: x67 :: x68 :: x69 :: x70 :: x71 :: x72 :: x73 :: x74 :: x75 :: x76 :: x77 :: x78 :: x79 :: x80 :: x81 :: x82 :: x83 :: x84 :: x85 :: x86 :: x87 :: x88 :: x89 :: x90 :: x91 :: x92 :: x93 :: x94 :: x95 :: x96 :: x97 :: x98 :: x99 :: x100 :: x101 :: x102 :: x103 :: x104 :: x105 :: x106 :: x107 :: x108 :: x109 :: x110 :: x111 :: x112 :: x113 :: x114 :: x115 :: x116 :: x117 :: x118 :: x119 :: x120 :: x121 :: x122 :: x123 :: x124 :: x125 :: x126 :: x127 :: x128 :: x129 :: x130 :: x131 :: x132 :: x133 :: x134 :: x135 :: x136 :: x137 :: x138 :: x139 :: x140 :: x141 :: x142 :: x143 :: x144 :: x145 :: x146 :: x147 :: x148 :: x149 :: x150 :: x151 :: x152 :: x153 :: x154 :: x155 :: x156 :: x157 :: x158 :: x159 :: x160 :: x161 :: x162 :: x163 :: x164 :: x165 :: x166 :: x167 :: x168 :: x169 :: x170 :: x171 :: x172 :: x173 :: x174 :: x175 :: x176 :: x177 :: x178 :: x179 :: x180 :: x181 :: x182 :: x183 :: x184 :: x185 :: x186 :: x187 :: x188 :: x189 :: x190 :: x191 :: x192 :: x193 :: x194 :: x195 :: x196 :: x197 :: x198 :: x199 :: x200 :: x201 :: x202 :: x203 :: x204 :: x205 :: x206 :: x207 :: x208 :: x209 :: x210 :: x211 :: x212 :: x213 :: x214 :: x215 :: x216 :: x217 :: x218 :: x219 :: x220 :: x221 :: [])), []⟩ wr0 := by
  have HRET := Lib.hid hret
  have HEXIT := Lib.hid hexit
  obtain ⟨e1, e2, e3, e4, e5⟩ := hE
  clear hret hexit
  have heq := Tryz.pairEqE
  unfold pairEqE at heq
  have HEQ := Lib.hid heq
  clear heq
  conv => arg 2; arg 1; whnf
  go_loopw [4, 13] (fun s4 s13 wr => ∃ k : Nat, k ≤ E.edges.length ∧ s4 = .int .i64 0 ∧ s13 = .int .i64 k ∧ Hid (∀ j (hj : j < E.edges.length), j < k → E.edges[j] ∉ E.edges.take j) ∧ Hid (EB w R E vp vg ve vf vl eb wr)) (fun _ s13 _ => E.edges.length - (intOf s13).toNat)
  case atStart => exact ⟨0, Nat.zero_le _, rfl, rfl, fun j _ h => by omega, he0⟩
  case round =>
    obtain ⟨k, hk, rfl, rfl, hall, he⟩ := hrel
    clear he0
    obtain ⟨c0, c1, c2, c3, c4, c5, c6, c7, c8, c9⟩ := he.out.cells
    obtain ⟨ae, ke, hve⟩ := he.out.sl.e.val
    rw [hve] at c7
    have HVE := Lib.hid hve
    clear hve c0 c1 c2 c3 c4 c5 c6 c8 c9
    by_cases hlt : k < E.edges.length
    · have hsl := he.out.sl.e
      rw [HVE.out] at hsl
      obtain ⟨b, off, hag, hRb, hb, hc⟩ := hsl.elem (f := edgeCells) (fun _ => rfl) (by decide) (by omega)
      have hag2 : ae = some ⟨b, off, none⟩ := hag
      subst hag2
      have q0 := hc k hlt 0 _ rfl
      have q1 := hc k hlt 1 _ rfl
      rw [Nat.add_zero] at q0
      have HC := Lib.hid hc
      clear hc hsl hag
      obtain ⟨wo, hwo⟩ : ∃ wo, wo = wr := ⟨_, rfl⟩
      go_wp2_with fail
      rw [← hwo] at he HC c7 q0 q1 ⊢
      clear hwo
      go_loopw [4, 14] (fun s4 s14 wx => ∃ j q : Nat, j ≤ k ∧ s4 = .int .i64 0 ∧ s14 = .int .i64 j ∧ Hid (∀ i (hi : i < j) (hk : i < E.edges.length), i < k → E.edges[i] ≠ E.edges[k]) ∧ wx = wo.drewN q) (fun _ s14 _ => k - (intOf s14).toNat)
      case atStart => exact ⟨0, 0, Nat.zero_le _, rfl, rfl, fun i h => by omega, rfl⟩
      case round =>
        obtain ⟨j, q, hj, rfl, rfl, hin, rfl⟩ := hrel
        by_cases hjk : j < k
        · have hje : j < E.edges.length := by omega
          have p0 := HC.out j hje 0 _ rfl
          have p1 := HC.out j hje 1 _ rfl
          rw [Nat.add_zero] at p0
          have hjl : (j : Int) < (E.edges.length : Int) := by omega
          by_cases hx : E.edges[j] = E.edges[k]
          · have hq := fun w => HEQ.out w E.edges[j].1 E.edges[j].2 E.edges[k].1 E.edges[k].2
            rw [decide_eq_true (show (E.edges[j].1, E.edges[j].2) = (E.edges[k].1, E.edges[k].2) from hx)] at hq
            have HB := Lib.hid (edgesTwice_hit k hlt (mem_take_of hjk hlt _ hx))
            clear hx
            go_wp2_with fail
            go_quiet (fail)
            go_wp2_with fail
            exact HRET.out _ _ _ _ _ _ _ _ _ _ _ _ _ _ _ _ _ _ _ _ _ _ _ _ _ _ _ _ _ _ _ _ _ _ _ _ _ _ _ _ _ _ _ _ _ _ _ _ _ _ _ _ _ _ _ _ _ _ _ _ _ _ _ _ _ _ _ _ _ _ _ _ _ _ _ _ _ _ _ _ _ _ _ _ _ _ _ _ _ _ _ _ _ _ _ _ _ _ _ _ _ _ _ _ _ _ _ _ _ _ _ _ _ _ _ _ _ _ _ _ _ _ _ _ _ _ _ _ _ _ _ _ _ _ _ _ _ _ _ _ _ _ _ _ _ _ _ _ _ _ _ _ _ _ _ _ _ _ _ _ _ _ _ _ _ _ _ _ _ _ _ _ _ _ _ _ _ _ _ _ _ _ _ _ _ _ _ _ _ _ _ _ _ _ _ _ _ _ _ _ _ _ _ _ _ _ _ _ _ _ _ _ _ _ _ _ _ _ _ _ _ _ HB.out (below_drewN' _ (below_drewN' _ he.out.bel))
          · have hq := fun w => HEQ.out w E.edges[j].1 E.edges[j].2 E.edges[k].1 E.edges[k].2
            rw [decide_eq_false (show ¬ (E.edges[j].1, E.edges[j].2) = (E.edges[k].1, E.edges[k].2) from hx)] at hq
            have HX := Lib.hid hx
            clear hx
            go_wp2_with fail
            go_quiet (fail)
            go_wp2_with fail
            go_roundw
            case rel => exact ⟨j + 1, _, by omega, rfl, by go_num, (show ∀ i (hi : i < j + 1) (hk : i < E.edges.length), i < k → E.edges[i] ≠ E.edges[k] from fun i hi hik hikk => by
              by_cases e : i = j
              · subst e; exact HX.out
              · exact hin.out i (by omega) hik hikk), rfl⟩
            case measure => simp [intOf]; omega
        · obtain rfl : j = k := by omega
          have hok := Lib.hid (not_mem_take hlt E.edges[j] (fun i hi => hin.out i hi (by omega) hi))
          go_wp2_with fail
          go_roundw
          case rel => exact ⟨j + 1, by omega, rfl, by go_num, (show ∀ i (hi : i < E.edges.length), i < j + 1 → E.edges[i] ∉ E.edges.take i from fun i hi hji => by
            by_cases e : i = j
            · subst e; exact hok.out
            · exact hall.out i hi (by omega)), he.out.keep (keep_drewN _ (Keep.refl (fun _ => False) _)) (fun _ h _ => h.elim)⟩
          case measure => simp [intOf]; omega
    · have hv := Lib.hid (edgesTwice_miss (l := E.edges) (fun j hj => hall.out j hj (by omega)))
      go_wp2_with fail
      exact HEXIT.out _ _ _ _ _ _ _ _ _ _ _ _ _ _ _ _ _ _ _ _ _ _ _ _ _ _ _ _ _ _ _ _ _ _ _ _ _ _ _ _ _ _ _ _ _ _ _ _ _ _ _ _ _ _ _ _ _ _ _ _ _ _ _ _ _ _ _ _ _ _ _ _ _ _ _ _ _ _ _ _ _ _ _ _ _ _ _ _ _ _ _ _ _ _ _ _ _ _ _ _ _ _ _ _ _ _ _ _ _ _ _ _ _ _ _ _ _ _ _ _ _ _ _ _ _ _ _ _ _ _ _ _ _ _ _ _ _ _ _ _ _ _ _ _ _ _ _ _ _ _ _ _ _ _ _ _ _ _ _ _ _ _ _ _ _ _ _ _ _ _ _ _ _ _ _ _ _ _ _ _ _ _ _ _ _ _ _ _ _ _ _ _ _ _ _ _ _ _ _ _ _ _ _ _ _ _ _ _ _ _ _ _ _ _ _ _ _ _ _ hv.out he.out
end Go.Proofs.YtakjbjokekbmbaaGreatDoor
