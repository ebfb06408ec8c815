/- CellsActs: any acts on any cells: the document's ones answer alike: the loop. -/
import Derived.Test.YtpodijlhlgbbdabDoorCellsActs0
namespace Go.Proofs.YtpodijlhlgbbdabDoor
open Go.RowKit
set_option linter.unusedVariables false

def firstLoop : Code → Option Code
  | .loop c => some c
  | .seq a b => match firstLoop a with
    | some c => some c
    | none => firstLoop b
  | .block _ c => firstLoop c
  | .scope c => firstLoop c
  | .cond _ a b => match firstLoop a with
    | some c => some c
    | none => firstLoop b
  | _ => none
noncomputable def caBody : Code := ((Tryd.f8.body.bind firstLoop).getD .skip)

theorem CellsAt.drw {w : World} {c rb : Nat} {ao : Option Addr} {cap : Nat} {m : CM} (h : CellsAt w c rb ao cap m) (n : Nat) : CellsAt (w.drewN n) c rb ao cap m := h.keep (keep_drewN0 w n) (fun _ h => h.elim)
theorem quiet_of_eq {P : Program} {f : FuncId} {args : Array Value} {w : World} {n : Nat} {v : Value}
    (h : Calls P f args (w.drewN n) fun e w' => e = .returned v ∧ w.drewN n = w') : Calls P f args (w.drewN n) fun e w'' => e = .returned v ∧ ∃ m, w'' = w.drewN m :=
  h.mono fun _ _ ⟨he, hm⟩ => ⟨he, n, hm.symm⟩
theorem ext_str (bs : List UInt8) (a n : Nat) : (strOf bs).extract a (a + n) = strOf ((bs.drop a).take n) := by
  apply ByteArray.ext
  apply Array.ext'
  simp only [strOf, ByteArray.data_extract, Array.toList_extract]
  simp
theorem CK.redo {B : Nat} {sa : Nat → Addr} {w0 w : World} {c rb : Nat} {cap : Nat} {m : CM} (h : CK B sa w0 c rb none cap m w) (rb' : Nat) (h1 : rb' ≠ c) (h2 : w0.heap.size ≤ rb') : CK B sa w0 c rb' none cap m w :=
  ⟨⟨h.mem.box, h1, by have := h.mem.at_; simpa using this, (fun e => by cases e), h.mem.len, h.mem.room⟩, h.se, h.bel, ⟨h.lay.1, h2, h.lay.2.2⟩⟩
theorem CK.pick {B : Nat} {sa : Nat → Addr} {w0 w : World} {c rb : Nat} {ao : Option Addr} {cap : Nat} {m : CM} (h : CK B sa w0 c rb ao cap m w) (r : Nat) (hr : r < w.heap.size) (hne : r ≠ rb) : ∃ rb', CK B sa w0 c rb' ao cap m w ∧ r ≠ rb' ∧ rb' ≠ w.heap.size := by
  rcases h.mem.at_ with rfl | ⟨_, rfl⟩
  · obtain ⟨C, t, hb, _⟩ := h.mem.row rfl
    have := lt_of_get hb
    exact ⟨rb, h, hne, by omega⟩
  · have h1 := lt_of_get h.mem.box
    have h2 := h.lay.1
    exact ⟨w.heap.size + 1, h.redo _ (by omega) (by omega), by omega, by omega⟩
theorem CK.far {B : Nat} {sa : Nat → Addr} {S : Nat → Prop} {w0 w w' : World} {c rb : Nat} {ao : Option Addr} {cap : Nat} {m : CM} (h : CK B sa w0 c rb ao cap m w) (k : Keep S w w') (hS : ∀ b, S b → b ≠ c ∧ b ≠ rb ∧ w0.heap.size ≤ b) : CK B sa w0 c rb ao cap m w' := by
  obtain ⟨l1, l2, l3⟩ := h.lay
  exact ⟨h.mem.keep k (fun b hb => ⟨(hS b hb).1, (hS b hb).2.1⟩), h.se.keep k (fun b hb => by have := (hS b hb).2.2; omega), h.bel.trans (k.below h.bel.size (fun b hb => (hS b hb).2.2)), h.lay⟩
theorem AK.same {B : Nat} {sa : Nat → Addr} {w0 w w' : World} {c rb : Nat} {ao : Option Addr} {cap : Nat} {m m' : CM} {r : Nat} {m2 m2' : CM} {ab : Nat} {a : Act1V} (h : AK B sa w0 c rb ao cap m r m2 ab a w) (h' : AK B sa w0 c rb ao cap m' r m2' ab a w') (o : Nat) : w'.cell? ⟨ab, o, none⟩ = w.cell? ⟨ab, o, none⟩ := by
  simp [World.cell?, h.act, h'.act]

set_option maxRecDepth 100000 in
set_option maxHeartbeats 4000000 in
theorem ca_loop (B : Nat) (sa : Nat → Addr) (w wr0 : World) (L : List Act1V) (ao : Option Addr) (cap : Nat) (r c0 rb0 : Nat) (ao0 : Option Addr) (cap0 : Nat) (m0 : CM) (HL : Hid (SlOf (fun x => x < w.heap.size) w (Value.slice ao L.length cap) 4 (List.flatMap act1Cells L) L.length))
    (HLL : Hid (∀ (a : Act1V), a ∈ L → Act1Ok a)) (hL6 : L.length ≤ 60) (hr0 : w.heap.size ≤ r) (hm0 : Hid (CMOk m0 0)) (hC0 : Hid (CK B sa w c0 rb0 ao0 cap0 m0 wr0)) (hR0 : Hid (RC wr0 r m0)) (hne0 : r ≠ c0 ∧ r ≠ rb0)
    (Q0 : Exit → Act → World → Prop)
    (hret : ∀ (y0 y1 y2 y3 y4 y5 y7 y8 y9 y10 y11 y12 y13 y14 y15 y16 y17 y18 y19 y20 y21 y22 y23 y24 y25 y26 y27 y28 y29 y30 y31 y32 y33 y34 y35 y36 y37 y38 y39 y40 y41 y42 y43 y44 y45 y46 y47 y48 y49 y50 y51 y52 y53 y54 y55 y56 y57 y58 y59 y60 y61 y62 y63 y64 y65 y66 y67 y68 y69 y70 y71 y72 y73 y74 y75 y76 y77 y78 y79 y80 y81 y82 y83 y84 y85 y86 y87 y88 y89 y90 y91 y92 y93 y94 y95 y96 y97 y98 y99 y100 y101 y102 y103 y104 y105 y106 y107 y108 y109 y110 y111 y112 y113 y114 y115 y116 y117 y118 y119 y120 y121 y122 y123 y124 y125 y126 y127 y128 y129 y130 y131 y132 y133 y134 y135 y136 y137 y138 y139 y140 y141 y142 y143 y144 y145 y146 y147 y148 y149 y150 y151 y152 y153 y154 y155 y156 y157 y158 y159 y160 y161 y162 y163 y164 y165 y166 y167 y168 y169 y170 y171 y172 y173 y174 y175 y176 y177 y178 y179 y180 y181 y182 y183 y184 y185 y186 y187 y188 y189 y190 y191 y192 y193 y194 y195 y196 y197 y198 y199 y200 y201 y202 y203 y204 y205 y206 y207 y208 y209 y210 y211 y212 y213 y214 y215 y216 y217 y218 y219 y220 y221 y222 y223 y224 y225 : Value) (w' : World), Below w.heap.size w w' → Q0 .ret ⟨(List.toArray (y0 :: y1 :: y2 :: y3 :: y4 :: y5 :: (.bool true) :: y7 :: y8 :: y9 :: y10 :: y11 :: y12 :: y13 :: y14 :: y15 :: y16 :: y17 :: y18 :: y19 :: y20 :: y21 :: y22 :: y23 :: y24 :: y25 :: y26 :: y27 :: y28 :: y29 :: y30 :: y31 :: y32 :: y33 :: y34 :: y35 :: y36 :: y37 :: y38 :: y39 :: y40 :: y41 :: y42 :: y43 :: y44 :: y45 :: y46 :: y47 :: y48 :: y49 :: y50 :: y51 :: y52 :: y53 :: y54 :: y55 :: y56 :: y57 :: y58 :: y59 :: y60 :: y61 :: y62 :: y63 :: y64 :: y65 :: y66 :: y67 :: y68 :: y69 :: y70 :: y71 :: y72 :: y73 :: y74 :: y75 :: y76 :: y77 :: y78 :: y79 :: y80 :: y81 :: y82 :: y83 :: y84 :: y85 :: y86 :: y87 :: y88 :: y89 :: y90 :: y91 :: y92 :: y93 :: y94 :: y95 :: y96 :: y97 :: y98 :: y99 :: y100 :: y101 :: y102 :: y103 :: y104 :: y105 :: y106 :: y107 :: y108 :: y109 :: y110 :: y111 :: y112 :: y113 :: y114 :: y115 :: y116 :: y117 :: y118 :: y119 :: y120 :: y121 :: y122 :: y123 :: y124 :: y125 :: y126 :: y127 :: y128 :: y129 :: y130 :: y131 :: y132 :: y133 :: y134 :: y135 :: y136 :: y137 :: y138 :: y139 :: y140 :: y141 :: y142 :: y143 :: y144 :: y145 :: y146 :: y147 :: y148 :: y149 :: y150 :: y151 :: y152 :: y153 :: y154 :: y155 :: y156 :: y157 :: y158 :: y159 :: y160 :: y161 :: y162 :: y163 :: y164 :: y165 :: y166 :: y167 :: y168 :: y169 :: y170 :: y171 :: y172 :: y173 :: y174 :: y175 :: y176 :: y177 :: y178 :: y179 :: y180 :: y181 :: y182 :: y183 :: y184 :: y185 :: y186 :: y187 :: y188 :: y189 :: y190 :: y191 :: y192 :: y193 :: y194 :: y195 :: y196 :: y197 :: y198 :: y199 :: y200 :: y201 :: y202 :: y203 :: y204 :: y205 :: y206 :: y207 :: y208 :: y209 :: y210 :: y211 :: y212 :: y213 :: y214 :: y215 :: y216 :: y217 :: y218 :: y219 :: y220 :: y221 :: y222 :: y223 :: y224 :: y225 :: [])), []⟩ w')
    (hexit : ∀ (y0 y1 y2 y3 y4 y5 y6 y7 y8 y9 y10 y11 y12 y13 y14 y15 y16 y17 y18 y19 y20 y21 y22 y23 y24 y25 y26 y27 y28 y29 y30 y31 y32 y33 y34 y35 y36 y37 y38 y39 y40 y41 y42 y43 y44 y45 y46 y47 y48 y49 y50 y51 y52 y53 y54 y55 y56 y57 y58 y59 y60 y61 y62 y63 y64 y65 y66 y67 y68 y69 y70 y71 y72 y73 y74 y75 y76 y77 y78 y79 y80 y81 y82 y83 y84 y85 y86 y87 y88 y89 y90 y91 y92 y93 y94 y95 y96 y97 y98 y99 y100 y101 y102 y103 y104 y105 y106 y107 y108 y109 y110 y111 y112 y113 y114 y115 y116 y117 y118 y119 y120 y121 y122 y123 y124 y125 y126 y127 y128 y129 y130 y131 y132 y133 y134 y135 y136 y137 y138 y139 y140 y141 y142 y143 y144 y145 y146 y147 y148 y149 y150 y151 y152 y153 y154 y155 y156 y157 y158 y159 y160 y161 y162 y163 y164 y165 y166 y167 y168 y169 y170 y171 y172 y173 y174 y175 y176 y177 y178 y179 y180 y181 y182 y183 y184 y185 y186 y187 y188 y189 y190 y191 y192 y193 y194 y195 y196 y197 y198 y199 y200 y201 y202 y203 y204 y205 y206 y207 y208 y209 y210 y211 y212 y213 y214 y215 y216 y217 y218 y219 y220 y221 y222 y223 y224 y225 : Value) (w' : World), Below w.heap.size w w' → Q0 (.exit 0) ⟨(List.toArray (y0 :: y1 :: y2 :: y3 :: y4 :: y5 :: y6 :: y7 :: y8 :: y9 :: y10 :: y11 :: y12 :: y13 :: y14 :: y15 :: y16 :: y17 :: y18 :: y19 :: y20 :: y21 :: y22 :: y23 :: y24 :: y25 :: y26 :: y27 :: y28 :: y29 :: y30 :: y31 :: y32 :: y33 :: y34 :: y35 :: y36 :: y37 :: y38 :: y39 :: y40 :: y41 :: y42 :: y43 :: y44 :: y45 :: y46 :: y47 :: y48 :: y49 :: y50 :: y51 :: y52 :: y53 :: y54 :: y55 :: y56 :: y57 :: y58 :: y59 :: y60 :: y61 :: y62 :: y63 :: y64 :: y65 :: y66 :: y67 :: y68 :: y69 :: y70 :: y71 :: y72 :: y73 :: y74 :: y75 :: y76 :: y77 :: y78 :: y79 :: y80 :: y81 :: y82 :: y83 :: y84 :: y85 :: y86 :: y87 :: y88 :: y89 :: y90 :: y91 :: y92 :: y93 :: y94 :: y95 :: y96 :: y97 :: y98 :: y99 :: y100 :: y101 :: y102 :: y103 :: y104 :: y105 :: y106 :: y107 :: y108 :: y109 :: y110 :: y111 :: y112 :: y113 :: y114 :: y115 :: y116 :: y117 :: y118 :: y119 :: y120 :: y121 :: y122 :: y123 :: y124 :: y125 :: y126 :: y127 :: y128 :: y129 :: y130 :: y131 :: y132 :: y133 :: y134 :: y135 :: y136 :: y137 :: y138 :: y139 :: y140 :: y141 :: y142 :: y143 :: y144 :: y145 :: y146 :: y147 :: y148 :: y149 :: y150 :: y151 :: y152 :: y153 :: y154 :: y155 :: y156 :: y157 :: y158 :: y159 :: y160 :: y161 :: y162 :: y163 :: y164 :: y165 :: y166 :: y167 :: y168 :: y169 :: y170 :: y171 :: y172 :: y173 :: y174 :: y175 :: y176 :: y177 :: y178 :: y179 :: y180 :: y181 :: y182 :: y183 :: y184 :: y185 :: y186 :: y187 :: y188 :: y189 :: y190 :: y191 :: y192 :: y193 :: y194 :: y195 :: y196 :: y197 :: y198 :: y199 :: y200 :: y201 :: y202 :: y203 :: y204 :: y205 :: y206 :: y207 :: y208 :: y209 :: y210 :: y211 :: y212 :: y213 :: y214 :: y215 :: y216 :: y217 :: y218 :: y219 :: y220 :: y221 :: y222 :: y223 :: y224 :: y225 :: [])), []⟩ w')
    (x0 x1 x3 x4 x5 x6 x7 x8 x9 x13 x14 x15 x16 x17 x18 x19 x20 x21 x22 x23 x24 x25 x26 x27 x28 x29 x30 x31 x32 x33 x34 x35 x36 x37 x38 x39 x40 x41 x42 x43 x44 x45 x46 x47 x48 x49 x50 x51 x52 x53 x54 x55 x56 x57 x58 x59 x60 x61 x62 x63 x64 x65 x66 x67 x68 x69 x70 x71 x72 x73 x74 x75 x76 x77 x78 x79 x80 x81 x82 x83 x84 x85 x86 x87 x88 x89 x90 x91 x92 x93 x94 x95 x96 x97 x98 x99 x100 x101 x102 x103 x104 x105 x106 x107 x108 x109 x110 x111 x112 x113 x114 x115 x116 x117 x118 x119 x120 x121 x122 x123 x124 x125 x126 x127 x128 x129 x130 x131 x132 x133 x134 x135 x136 x137 x138 x139 x140 x141 x142 x143 x144 x145 x146 x147 x148 x149 x150 x151 x152 x153 x154 x155 x156 x157 x158 x159 x160 x161 x162 x163 x164 x165 x166 x167 x168 x169 x170 x171 x172 x173 x174 x175 x176 x177 x178 x179 x180 x181 x182 x183 x184 x185 x186 x187 x188 x189 x190 x191 x192 x193 x194 x195 x196 x197 x198 x199 x200 x201 x202 x203 x204 x205 x206 x207 x208 x209 x210 x211 x212 x213 x214 x215 x216 x217 x218 x219 x220 x221 x222 x223 x224 x225 : Value) :
    Code.wp Tryd.prog (Code.loop caBody) Q0 ⟨(List.toArray (x0 :: x1 :: (.slice ao L.length cap) :: x3 :: x4 :: x5 :: x6 :: x7 :: x8 :: x9 :: (.pointer (some ⟨c0, 0, none⟩)) :: (.pointer (some ⟨r, 0, none⟩)) :: (.int .i64 0) :: x13 :: x14 :: x15 :: x16 :: x17 :: x18 :: x19 :: x20 :: x21 :: x22 :: x23 :: x24 :: x25 :: x26 :: x27 :: x28 :: x29 :: x30 :: x31 :: x32 :: x33 :: x34 :: x35 :: x36 :: x37 :: x38 :: x39 :: x40 :: x41 :: x42 :: x43 :: x44 :: x45 :: x46 :: x47 :: x48 :: x49 :: x50 :: x51 :: x52 :: x53 :: x54 :: x55 :: x56 :: x57 :: x58 :: x59 :: x60 :: x61 :: x62 :: x63 :: x64 :: x65 :: x66 :: x67 :: x68 :: x69 :: x70 :: x71 :: x72 :: x73 :: x74 :: x75 :: x76 :: x77 :: x78 :: x79 :: x80 :: x81 :: x82 :: x83 :: x84 :: x85 :: x86 :: x87 :: x88 :: x89 :: x90 :: x91 :: x92 :: x93 :: x94 :: x95 :: x96 :: x97 :: x98 :: x99 :: x100 :: x101 :: x102 :: x103 :: x104 :: x105 :: x106 :: x107 :: x108 :: x109 :: x110 :: x111 :: x112 :: x113 :: x114 :: x115 :: x116 :: x117 :: x118 :: x119 :: x120 :: x121 :: x122 :: x123 :: x124 :: x125 :: x126 :: x127 :: x128 :: x129 :: x130 :: x131 :: x132 :: x133 :: x134 :: x135 :: x136 :: x137 :: x138 :: x139 :: x140 :: x141 :: x142 :: x143 :: x144 :: x145 :: x146 :: x147 :: x148 :: x149 :: x150 :: x151 :: x152 :: x153 :: x154 :: x155 :: x156 :: x157 :: x158 :: x159 :: x160 :: x161 :: x162 :: x163 :: x164 :: x165 :: x166 :: x167 :: x168 :: x169 :: x170 :: x171 :: x172 :: x173 :: x174 :: x175 :: x176 :: x177 :: x178 :: x179 :: x180 :: x181 :: x182 :: x183 :: x184 :: x185 :: x186 :: x187 :: x188 :: x189 :: x190 :: x191 :: x192 :: x193 :: x194 :: x195 :: x196 :: x197 :: x198 :: x199 :: x200 :: x201 :: x202 :: x203 :: x204 :: x205 :: x206 :: x207 :: x208 :: x209 :: x210 :: x211 :: x212 :: x213 :: x214 :: x215 :: x216 :: x217 :: x218 :: x219 :: x220 :: x221 :: x222 :: x223 :: x224 :: x225 :: [])), []⟩ wr0 := by
  have HRET := Lib.hid hret
  have HEXIT := Lib.hid hexit
  clear hret hexit
  conv => arg 2; arg 1; whnf
  go_loopw [10, 12] (fun s10 s12 wr => ∃ (i c rb : Nat) (aoc : Option Addr) (capc : Nat) (m : CM), i ≤ L.length ∧ s10 = .pointer (some ⟨c, 0, none⟩) ∧ s12 = .int .i64 i ∧ Hid (CMOk m (200 * i)) ∧ Hid (CK B sa w c rb aoc capc m wr) ∧ Hid (RC wr r m) ∧ Hid (r ≠ c ∧ r ≠ rb)) (fun _ s12 _ => L.length - (intOf s12).toNat)
  case atStart => exact ⟨0, c0, rb0, ao0, cap0, m0, Nat.zero_le _, rfl, rfl, hm0, hC0, hR0, hne0⟩
  case round =>
    obtain ⟨i, c, rb, aoc, capc, m, hi, rfl, rfl, hm, hC, hR, hne⟩ := hrel
    by_cases hlt : i < L.length
    · obtain ⟨b, off, rfl, hRb, _, hc⟩ := act1_cells HL.out (by omega)
      obtain ⟨q0, q1, q2, q3⟩ := hc i hlt
      have hcell := fun o => hC.out.bel.cell (p := ⟨b, o, none⟩) hRb
      rw [← hcell] at q0 q1 q2 q3
      clear hc hcell
      have hok := HLL.out L[i] (List.getElem_mem hlt)
      obtain ⟨left, cuts, hrr⟩ := hR.out
      have h3 := lt_of_get hrr.box
      obtain ⟨rb2, hC2, hn1, hn2⟩ := hC.out.pick r h3 hne.out.2
      have hn0 := hne.out.1
      clear hrr
      have a1 : AK B sa w c rb2 aoc capc m r m wr.heap.size L[i] (wr.alloc (.cells #[.string L[i].kind, .string L[i].b, .int .i64 L[i].at_, .int .i64 L[i].n] 64)) := by
        have hb := hC2.bel.size
        have h2 := lt_of_get hC2.mem.box
        exact ⟨hC2.below ((Below.refl _ _).alloc (Nat.le_refl _) _), hR.out.keep (below_keep ((Below.refl _ _).alloc (Nat.le_refl _) _)) (fun h => h), get_alloc_new _ _, by omega⟩
      have A1 := Lib.hid a1
      have HOK := Lib.hid hok
      have hrb : Hid (r ≠ c ∧ r ≠ rb2) := (show r ≠ c ∧ r ≠ rb2 from ⟨hn0, hn1⟩)
      clear a1 hok h3 hC hR hn1 hn2 hn0 hne hC2
      go_upto_region 20 with fail
      generalize World.alloc _ _ = w1 at A1 ⊢
      generalize wr.heap.size = ab at A1 ⊢
      obtain ⟨x0, x1, x2, x3⟩ := A1.out.cells
      by_cases hbig : 200 < L[i].b.size
      · go_wp2_with fail
        exact HRET.out _ _ _ _ _ _ _ _ _ _ _ _ _ _ _ _ _ _ _ _ _ _ _ _ _ _ _ _ _ _ _ _ _ _ _ _ _ _ _ _ _ _ _ _ _ _ _ _ _ _ _ _ _ _ _ _ _ _ _ _ _ _ _ _ _ _ _ _ _ _ _ _ _ _ _ _ _ _ _ _ _ _ _ _ _ _ _ _ _ _ _ _ _ _ _ _ _ _ _ _ _ _ _ _ _ _ _ _ _ _ _ _ _ _ _ _ _ _ _ _ _ _ _ _ _ _ _ _ _ _ _ _ _ _ _ _ _ _ _ _ _ _ _ _ _ _ _ _ _ _ _ _ _ _ _ _ _ _ _ _ _ _ _ _ _ _ _ _ _ _ _ _ _ _ _ _ _ _ _ _ _ _ _ _ _ _ _ _ _ _ _ _ _ _ _ _ _ _ _ _ _ _ _ _ _ _ _ _ _ _ _ _ _ _ _ _ _ _ _ _ _ _ _ _ _ _ A1.out.ck.bel
      have M1 : Hid (CMOk m (200 * i + 200)) := hm.out.mono (by omega)
      by_cases hk1 : L[i].kind.toList = [114, 101, 97, 100]
      · have hkb : (L[i].kind.toList == [114, 101, 97, 100]) = true := by simp [hk1]
        clear hk1
        obtain ⟨E, hE⟩ : ∃ E, E = lookE m.off m.bs.length L[i].at_ L[i].n := ⟨_, rfl⟩
        cases E with
        | succ k =>
          have HE := Lib.hid hE.symm
          have hk11 := lookE_le m.off m.bs.length L[i].at_ L[i].n
          rw [← hE] at hk11
          clear hE
          have hpos : (0 : Int) < ((k + 1 : Nat) : Int) := by omega
          obtain ⟨kk, hkk⟩ : ∃ kk : Int, kk = ((k + 1 : Nat) : Int) := ⟨_, rfl⟩
          rw [← hkk] at hpos
          have HKK := Lib.hid hkk
          clear hkk
          go_wp2_with fail
          refine (cellsRead_bad B sa c rb2 _ _ m _ _ k w1 A1.out.ck.mem A1.out.ck.se HE.out).mono ?_
          rintro e w' ⟨rfl, rfl⟩
          rw [show strOf [] = ⟨#[]⟩ from rfl]
          obtain ⟨v9, hv9⟩ : ∃ v9, v9 = errv sa (k + 1) := ⟨_, rfl⟩
          rw [← hv9]
          have HV9 := Lib.hid hv9
          clear hv9
          obtain ⟨left, cuts, hrr⟩ := A1.out.rc
          have HRR := Lib.hid hrr
          clear hrr
          go_wp2_with fail
          refine (rError_any r m left cuts _ _ w1 HRR.out).mono ?_
          rintro e w' ⟨rfl, rfl⟩
          rw [HE.out, ← HKK.out]
          go_wp2_with fail
          rw [HV9.out, HKK.out]
          refine (coded1_any B sa (k + 1) (by omega) _ w1 A1.out.ck.se).mono ?_
          rintro e w2 ⟨rfl, b2⟩
          rw [decide_eq_true rfl]
          rw [← HKK.out, ← HV9.out]
          have C9 := Lib.hid (A1.out.ck.below b2)
          have R9 := Lib.hid (A1.out.rc.keep (below_keep b2) (fun h => h))
          have M9 := M1
          have N9 := hrb
          clear b2 A1 HRR M1 x0 x1 x2 x3 q0 q1 q2 q3
          go_wp2_with fail
          obtain ⟨left9, cuts9, rr9⟩ := R9.out
          obtain ⟨z0, z1, z2, z3, z4, zf⟩ := rcells_cells rr9
          obtain ⟨ob, hob⟩ : ∃ ob, ob = m.off := ⟨_, rfl⟩
          have hpo : ((!ob) == ob) = false := by cases ob <;> rfl
          rw [← hob] at z1
          have HPW : Hid (∀ n : Nat, ∀ W : World, W = w2 → Calls Tryd.prog 40 #[.pointer (some ⟨c, 0, none⟩)] (W.drewN n) (fun e w' => e = .returned (.bool (!ob)) ∧ W.drewN n = w')) := (show ∀ n : Nat, ∀ W : World, W = w2 → Calls Tryd.prog 40 #[.pointer (some ⟨c, 0, none⟩)] (W.drewN n) (fun e w' => e = .returned (.bool (!ob)) ∧ W.drewN n = w') from fun n W hW => by subst hW; rw [hob]; exact cellsPower_any c rb2 _ _ _ _ (C9.out.mem.drw _))
          clear rr9 hob
          go_quiet (first | (go_at_call 38; exact quiet_of_eq (cellsBytes_any c rb2 _ _ _ _ (C9.out.mem.drw _))) | (go_at_call 40; exact quiet_of_eq (HPW.out _ _ rfl)) | (go_at_call 39; exact quiet_of_eq (cellsWritten_any c rb2 _ _ _ _ (C9.out.mem.drw _))))
          go_wp2_with fail
          go_roundw
          case rel => exact ⟨i + 1, c, rb2, _, _, m, by omega, rfl, by go_num, (by have := M9.out; rw [show (200 * ((i + 1 : Nat) : Int)) = 200 * i + 200 by omega]; exact this), C9.out.still (keep_drewN0 _ _), R9.out.keep (keep_drewN0 _ _) (fun h => h), N9⟩
          case measure => simp [intOf]; omega
        | zero =>
          have HE := Lib.hid hE.symm
          obtain ⟨ho, h0, h1, h2⟩ := lookE_zero HE.out
          clear hE
          obtain ⟨a0, ha0⟩ : ∃ a0 : Nat, L[i].at_ = a0 := ⟨L[i].at_.toNat, by omega⟩
          obtain ⟨n0, hn0⟩ : ∃ n0 : Nat, L[i].n = n0 := ⟨L[i].n.toNat, by omega⟩
          rw [ha0] at x2 HE h2
          rw [hn0] at x3 HE h2
          have hlen := A1.out.ck.mem.len
          have HO := Lib.hid ho
          clear ha0 hn0 h0 h1 ho
          have hle : a0 + n0 ≤ m.bs.length := by omega
          have b1 : (a0 : Int) ≤ (a0 : Int) + n0 := by omega
          have b2 : (a0 : Int) + n0 ≤ ((strOf m.bs).size : Int) := by show (a0 : Int) + n0 ≤ (m.bs.length : Int); omega
          have b3 : ((a0 : Int) + n0).toNat = a0 + n0 := by omega
          have hw := IntWalk.i64_in ((a0 : Int) + n0) (by omega)
          have hex := ext_str m.bs a0 n0
          obtain ⟨left, cuts, hrr⟩ := A1.out.rc
          obtain ⟨z0, z1, z2, z3, z4, zf⟩ := rcells_cells hrr
          have HRR := Lib.hid hrr
          clear hrr z1 z2 z3 z4 zf
          go_wp2_with fail
          refine (cellsRead_good B sa c rb2 _ _ m a0 n0 w1 A1.out.ck.mem A1.out.ck.se HO.out hle).mono ?_
          rintro e w' ⟨rfl, rfl⟩
          go_wp2_with fail
          refine (rError_any r m left cuts _ _ w1 HRR.out).mono ?_
          rintro e w' ⟨rfl, rfl⟩
          rw [HE.out]
          rw [show (((0 : Nat) : Int)) = 0 from rfl]
          go_wp2_with fail
          go_quiet (fail)
          have C8 : Hid (∀ n, CK B sa w c rb2 aoc capc m (w1.drewN n)) := (show ∀ n, CK B sa w c rb2 aoc capc m (w1.drewN n) from fun n => A1.out.ck.still (keep_drewN0 _ _))
          have R8 : Hid (∀ n, RC (w1.drewN n) r m) := (show ∀ n, RC (w1.drewN n) r m from fun n => A1.out.rc.keep (keep_drewN0 _ _) (fun h => h))
          generalize hw2 : World.drewN _ _ = w2
          have C9 : Hid (CK B sa w c rb2 aoc capc m w2) := (show CK B sa w c rb2 aoc capc m w2 from by rw [← hw2]; exact C8.out _)
          have R9 : Hid (RC w2 r m) := (show RC w2 r m from by rw [← hw2]; exact R8.out _)
          have M9 := M1
          have N9 := hrb
          clear hw2 C8 R8 A1 HRR M1 x0 x1 x2 x3 q0 q1 q2 q3 b1 b2 b3 hw hex z0
          go_wp2_with fail
          obtain ⟨left9, cuts9, rr9⟩ := R9.out
          obtain ⟨z0, z1, z2, z3, z4, zf⟩ := rcells_cells rr9
          obtain ⟨ob, hob⟩ : ∃ ob, ob = m.off := ⟨_, rfl⟩
          have hpo : ((!ob) == ob) = false := by cases ob <;> rfl
          rw [← hob] at z1
          have HPW : Hid (∀ n : Nat, ∀ W : World, W = w2 → Calls Tryd.prog 40 #[.pointer (some ⟨c, 0, none⟩)] (W.drewN n) (fun e w' => e = .returned (.bool (!ob)) ∧ W.drewN n = w')) := (show ∀ n : Nat, ∀ W : World, W = w2 → Calls Tryd.prog 40 #[.pointer (some ⟨c, 0, none⟩)] (W.drewN n) (fun e w' => e = .returned (.bool (!ob)) ∧ W.drewN n = w') from fun n W hW => by subst hW; rw [hob]; exact cellsPower_any c rb2 _ _ _ _ (C9.out.mem.drw _))
          clear rr9 hob
          go_quiet (first | (go_at_call 38; exact quiet_of_eq (cellsBytes_any c rb2 _ _ _ _ (C9.out.mem.drw _))) | (go_at_call 40; exact quiet_of_eq (HPW.out _ _ rfl)) | (go_at_call 39; exact quiet_of_eq (cellsWritten_any c rb2 _ _ _ _ (C9.out.mem.drw _))))
          go_wp2_with fail
          go_roundw
          case rel => exact ⟨i + 1, c, rb2, _, _, m, by omega, rfl, by go_num, (by have := M9.out; rw [show (200 * ((i + 1 : Nat) : Int)) = 200 * i + 200 by omega]; exact this), C9.out.still (keep_drewN0 _ _), R9.out.keep (keep_drewN0 _ _) (fun h => h), N9⟩
          case measure => simp [intOf]; omega
      have hkb1 : (L[i].kind.toList == [114, 101, 97, 100]) = false := by simp [hk1]
      clear hk1
      by_cases hk2 : L[i].kind.toList = [119, 114, 105, 116, 101]
      · have hkb2 : (L[i].kind.toList == [119, 114, 105, 116, 101]) = true := by simp [hk2]
        clear hk2
        have hm9 := actWM_ok hm.out L[i].at_ L[i].b (by omega)
        obtain ⟨m9, hmm⟩ : ∃ m9, m9 = actWM m L[i].at_ L[i].b := ⟨_, rfl⟩
        obtain ⟨E, hE⟩ : ∃ E, E = actWE m L[i].at_ L[i].b := ⟨_, rfl⟩
        obtain ⟨vE, hvE⟩ : ∃ vE, vE = errv sa E := ⟨_, rfl⟩
        have hW := fun (W : World) (k : AK B sa w c rb2 aoc capc m r m ab L[i] W) => (ak_write B sa w c rb2 aoc capc m L[i].at_ L[i].b W k.ck (200 * i) hm.out (by omega)).mono (fun e w' (h : _ ∧ _ ∧ _) => (show e = .returned vE ∧ AK B sa w c rb2 aoc capc m9 r m ab L[i] w' from ⟨by rw [hvE, hE]; exact h.1, by rw [hmm]; exact k.stepC h.2.2 h.2.1⟩))
        have hR := fun (W : World) (k : AK B sa w c rb2 aoc capc m9 r m ab L[i] W) => (rk_write r m L[i].at_ L[i].b W k.rc (200 * i) hm.out (by omega)).mono (fun e w' (h : _ ∧ _ ∧ _) => (show e = .returned (.int .i64 (E : Int)) ∧ AK B sa w c rb2 aoc capc m9 r m9 ab L[i] w' from ⟨by rw [hE]; exact h.1, by rw [hmm] at k ⊢; exact k.stepR h.2.2 h.2.1⟩))
        have hC := fun (W : World) (k : AK B sa w c rb2 aoc capc m9 r m9 ab L[i] W) => (coded1_any B sa E (by rw [hE]; exact actWE_le m L[i].at_ L[i].b) E W k.ck.se).mono (fun e w' (h : _ ∧ _) => (show e = .returned (.bool true) ∧ AK B sa w c rb2 aoc capc m9 r m9 ab L[i] w' from ⟨by rw [h.1, decide_eq_true rfl], k.below h.2⟩))
        rw [← hvE] at hC
        rw [← hmm] at hm9
        have HW := Lib.hid hW
        have HR := Lib.hid hR
        have HC := Lib.hid hC
        have M9 := Lib.hid hm9
        clear hW hR hC hm9 hmm hE hvE
        go_wp2_with fail
        go_region_held3 (fun w' => ∀ o, w'.cell? ⟨ab, o, none⟩ = w1.cell? ⟨ab, o, none⟩)
          (first | exact fun _ => rfl | exact A1.out.same kE | exact A1.out.same kE.drew)
          (first | (go_at_call 37; refine (HW.out _ ?_).mono ?_; (repeat (first | exact A1.out | refine AK.drew ?_)); rintro e wE ⟨rfl, kE⟩) | (go_at_call 44; refine (HR.out _ ?_).mono ?_; (repeat (first | exact kE | refine AK.drew ?_)); rintro e wE ⟨rfl, kE⟩) | (go_at_call 21; refine (HC.out _ ?_).mono ?_; (repeat (first | exact kE | refine AK.drew ?_)); rintro e wE ⟨rfl, kE⟩))
        all_goals
          have C9 := Lib.hid kE.ck
          have R9 := Lib.hid kE.rc
          have N9 := hrb
          clear HW HR HC A1 M1 x0 x1 x2 x3 q0 q1 q2 q3 kE
          go_wp2_with fail
          obtain ⟨left9, cuts9, rr9⟩ := R9.out
          obtain ⟨z0, z1, z2, z3, z4, zf⟩ := rcells_cells rr9
          obtain ⟨ob, hob⟩ : ∃ ob, ob = m9.off := ⟨_, rfl⟩
          have hpo : ((!ob) == ob) = false := by cases ob <;> rfl
          rw [← hob] at z1
          have HPW : Hid (∀ n : Nat, ∀ W : World, W = wE → Calls Tryd.prog 40 #[.pointer (some ⟨c, 0, none⟩)] (W.drewN n) (fun e w' => e = .returned (.bool (!ob)) ∧ W.drewN n = w')) := (show ∀ n : Nat, ∀ W : World, W = wE → Calls Tryd.prog 40 #[.pointer (some ⟨c, 0, none⟩)] (W.drewN n) (fun e w' => e = .returned (.bool (!ob)) ∧ W.drewN n = w') from fun n W hW => by subst hW; rw [hob]; exact cellsPower_any c rb2 _ _ _ _ (C9.out.mem.drw _))
          clear rr9 hob
          go_quiet (first | (go_at_call 38; exact quiet_of_eq (cellsBytes_any c rb2 _ _ _ _ (C9.out.mem.drw _))) | (go_at_call 40; exact quiet_of_eq (HPW.out _ _ rfl)) | (go_at_call 39; exact quiet_of_eq (cellsWritten_any c rb2 _ _ _ _ (C9.out.mem.drw _))))
          go_wp2_with fail
          go_roundw
          case rel => exact ⟨i + 1, c, rb2, _, _, m9, by omega, rfl, by go_num, (by have := M9.out; rw [show (200 * ((i + 1 : Nat) : Int)) = 200 * i + 200 by omega]; exact this), C9.out.still (keep_drewN0 _ _), R9.out.keep (keep_drewN0 _ _) (fun h => h), N9⟩
          case measure => simp [intOf]; omega
      have hkb2 : (L[i].kind.toList == [119, 114, 105, 116, 101]) = false := by simp [hk2]
      clear hk2
      by_cases hk3 : L[i].kind.toList = [99, 117, 116]
      · have hkb3 : (L[i].kind.toList == [99, 117, 116]) = true := by simp [hk3]
        clear hk3
        have hm9 := cutM_ok hm.out (HOK.out.n).2
        obtain ⟨m9, hmm⟩ : ∃ m9, m9 = cutM m L[i].n := ⟨_, rfl⟩
        obtain ⟨E, hE⟩ : ∃ E, E = cutE m.off L[i].n := ⟨_, rfl⟩
        obtain ⟨vE, hvE⟩ : ∃ vE, vE = errv sa E := ⟨_, rfl⟩
        have hW := fun (W : World) (k : AK B sa w c rb2 aoc capc m r m ab L[i] W) => (cellsCut_any B sa c rb2 aoc capc m L[i].n W k.ck.mem k.ck.se).mono (fun e w' (h : _ ∧ _ ∧ _) => (show e = .returned vE ∧ AK B sa w c rb2 aoc capc m9 r m ab L[i] w' from ⟨by rw [hvE, hE]; exact h.1, by rw [hmm]; exact k.stepC1 h.2.2 h.2.1⟩))
        have hR : ∀ (W : World) (k : AK B sa w c rb2 aoc capc m9 r m ab L[i] W), Calls Tryd.prog 45 #[.pointer (some ⟨r, 0, none⟩), .int .i64 L[i].n] W (fun e w' => e = .returned (.int .i64 (E : Int)) ∧ AK B sa w c rb2 aoc capc m9 r m9 ab L[i] w') := fun W k => by
          obtain ⟨left, cuts, hrr⟩ := k.rc
          exact (rCut_any r m left cuts L[i].n W hrr).mono (fun e w' (h : _ ∧ _ ∧ _) => (show e = .returned (.int .i64 (E : Int)) ∧ AK B sa w c rb2 aoc capc m9 r m9 ab L[i] w' from ⟨by rw [hE]; exact h.1, by rw [hmm] at k ⊢; exact k.stepR h.2.2 h.2.1⟩))
        have hC := fun (W : World) (k : AK B sa w c rb2 aoc capc m9 r m9 ab L[i] W) => (coded1_any B sa E (by rw [hE]; exact cutE_le m.off L[i].n) E W k.ck.se).mono (fun e w' (h : _ ∧ _) => (show e = .returned (.bool true) ∧ AK B sa w c rb2 aoc capc m9 r m9 ab L[i] w' from ⟨by rw [h.1, decide_eq_true rfl], k.below h.2⟩))
        rw [← hvE] at hC
        rw [← hmm] at hm9
        have HW := Lib.hid hW
        have HR := Lib.hid hR
        have HC := Lib.hid hC
        have M9 := Lib.hid (hm9.mono (show (200 * (i : Int)) ≤ 200 * i + 200 by omega))
        clear hW hR hC hm9 hmm hE hvE
        go_wp2_with fail
        go_region_held3 (fun w' => ∀ o, w'.cell? ⟨ab, o, none⟩ = w1.cell? ⟨ab, o, none⟩)
          (first | exact fun _ => rfl | exact A1.out.same kE | exact A1.out.same kE.drew)
          (first | (go_at_call 36; refine (HW.out _ ?_).mono ?_; (repeat (first | exact A1.out | refine AK.drew ?_)); rintro e wE ⟨rfl, kE⟩) | (go_at_call 45; refine (HR.out _ ?_).mono ?_; (repeat (first | exact kE | refine AK.drew ?_)); rintro e wE ⟨rfl, kE⟩) | (go_at_call 21; refine (HC.out _ ?_).mono ?_; (repeat (first | exact kE | refine AK.drew ?_)); rintro e wE ⟨rfl, kE⟩))
        all_goals
          have C9 := Lib.hid kE.ck
          have R9 := Lib.hid kE.rc
          have N9 := hrb
          clear HW HR HC A1 M1 x0 x1 x2 x3 q0 q1 q2 q3 kE
          go_wp2_with fail
          obtain ⟨left9, cuts9, rr9⟩ := R9.out
          obtain ⟨z0, z1, z2, z3, z4, zf⟩ := rcells_cells rr9
          obtain ⟨ob, hob⟩ : ∃ ob, ob = m9.off := ⟨_, rfl⟩
          have hpo : ((!ob) == ob) = false := by cases ob <;> rfl
          rw [← hob] at z1
          have HPW : Hid (∀ n : Nat, ∀ W : World, W = wE → Calls Tryd.prog 40 #[.pointer (some ⟨c, 0, none⟩)] (W.drewN n) (fun e w' => e = .returned (.bool (!ob)) ∧ W.drewN n = w')) := (show ∀ n : Nat, ∀ W : World, W = wE → Calls Tryd.prog 40 #[.pointer (some ⟨c, 0, none⟩)] (W.drewN n) (fun e w' => e = .returned (.bool (!ob)) ∧ W.drewN n = w') from fun n W hW => by subst hW; rw [hob]; exact cellsPower_any c rb2 _ _ _ _ (C9.out.mem.drw _))
          clear rr9 hob
          go_quiet (first | (go_at_call 38; exact quiet_of_eq (cellsBytes_any c rb2 _ _ _ _ (C9.out.mem.drw _))) | (go_at_call 40; exact quiet_of_eq (HPW.out _ _ rfl)) | (go_at_call 39; exact quiet_of_eq (cellsWritten_any c rb2 _ _ _ _ (C9.out.mem.drw _))))
          go_wp2_with fail
          go_roundw
          case rel => exact ⟨i + 1, c, rb2, _, _, m9, by omega, rfl, by go_num, (by have := M9.out; rw [show (200 * ((i + 1 : Nat) : Int)) = 200 * i + 200 by omega]; exact this), C9.out.still (keep_drewN0 _ _), R9.out.keep (keep_drewN0 _ _) (fun h => h), N9⟩
          case measure => simp [intOf]; omega
      have hkb3 : (L[i].kind.toList == [99, 117, 116]) = false := by simp [hk3]
      clear hk3
      by_cases hk4 : L[i].kind.toList = [111, 110]
      · have hkb4 : (L[i].kind.toList == [111, 110]) = true := by simp [hk4]
        clear hk4
        go_wp2_with fail
        refine (cellsOn_any c rb2 aoc capc m w1 A1.out.ck.mem).mono ?_
        rintro e w2 ⟨rfl, h2, k2⟩
        have A2 := Lib.hid (A1.out.stepC1 k2 h2)
        clear h2 k2 A1 x0 x1 x2 x3
        obtain ⟨left, cuts, hrr⟩ := A2.out.rc
        have HRR := Lib.hid hrr
        clear hrr
        go_wp2_with fail
        refine (rOn_any r m left cuts w2 HRR.out).mono ?_
        rintro e w3 ⟨rfl, h3, k3⟩
        have A3 := A2.out.stepR k3 ⟨_, _, h3⟩
        obtain ⟨m9, hmm⟩ : ∃ m9 : CM, m9 = ⟨m.bs, false, -1, m.wr⟩ := ⟨_, rfl⟩
        rw [← hmm] at A3
        have C9 := Lib.hid A3.ck
        have R9 := Lib.hid A3.rc
        have N9 := hrb
        have M9 : Hid (CMOk m9 (200 * i + 200)) := (show CMOk m9 (200 * i + 200) from by rw [hmm]; exact ⟨by show (-1 : Int) ≤ -1; decide, by show (-1 : Int) ≤ 9223372036854775807; decide, M1.out.w0, M1.out.w1⟩)
        clear hmm A3 A2 HRR h3 k3 M1 q0 q1 q2 q3
        go_wp2_with fail
        obtain ⟨left9, cuts9, rr9⟩ := R9.out
        obtain ⟨z0, z1, z2, z3, z4, zf⟩ := rcells_cells rr9
        obtain ⟨ob, hob⟩ : ∃ ob, ob = m9.off := ⟨_, rfl⟩
        have hpo : ((!ob) == ob) = false := by cases ob <;> rfl
        rw [← hob] at z1
        have HPW : Hid (∀ n : Nat, ∀ W : World, W = w3 → Calls Tryd.prog 40 #[.pointer (some ⟨c, 0, none⟩)] (W.drewN n) (fun e w' => e = .returned (.bool (!ob)) ∧ W.drewN n = w')) := (show ∀ n : Nat, ∀ W : World, W = w3 → Calls Tryd.prog 40 #[.pointer (some ⟨c, 0, none⟩)] (W.drewN n) (fun e w' => e = .returned (.bool (!ob)) ∧ W.drewN n = w') from fun n W hW => by subst hW; rw [hob]; exact cellsPower_any c rb2 _ _ _ _ (C9.out.mem.drw _))
        clear rr9 hob
        go_quiet (first | (go_at_call 38; exact quiet_of_eq (cellsBytes_any c rb2 _ _ _ _ (C9.out.mem.drw _))) | (go_at_call 40; exact quiet_of_eq (HPW.out _ _ rfl)) | (go_at_call 39; exact quiet_of_eq (cellsWritten_any c rb2 _ _ _ _ (C9.out.mem.drw _))))
        go_wp2_with fail
        go_roundw
        case rel => exact ⟨i + 1, c, rb2, _, _, m9, by omega, rfl, by go_num, (by have := M9.out; rw [show (200 * ((i + 1 : Nat) : Int)) = 200 * i + 200 by omega]; exact this), C9.out.still (keep_drewN0 _ _), R9.out.keep (keep_drewN0 _ _) (fun h => h), N9⟩
        case measure => simp [intOf]; omega
      have hkb4 : (L[i].kind.toList == [111, 110]) = false := by simp [hk4]
      clear hk4
      go_wp2_with fail
      refine (cellsCopy_any c rb2 aoc capc m w1 A1.out.ck.mem).mono ?_
      rintro e w2 ⟨c2, rb3, ao3, cap3, rfl, h2, l2, l3, b2⟩
      have hh1 := lt_of_get A1.out.ck.mem.box
      have hh2 := A1.out.ck.bel.size
      have hh3 := lt_of_get A1.out.act
      obtain ⟨s1, s2, s3, s4, s5, s6, s7⟩ := A1.out.sep
      obtain ⟨t1, t2, t3⟩ := A1.out.ck.lay
      have hr9 : r < w1.heap.size := by
        obtain ⟨left, cuts, hrr⟩ := A1.out.rc
        exact lt_of_get hrr.box
      have y2 : CK B sa w c2 rb3 ao3 cap3 m w2 := ⟨h2, (A1.out.ck.below b2).se, (A1.out.ck.below b2).bel, by omega⟩
      obtain ⟨rb4, o2, hrb4, hr4⟩ : ∃ rb4, CK B sa w c rb4 aoc capc m w2 ∧ rb4 < w1.heap.size ∧ r ≠ rb4 := by
        have o2 := A1.out.ck.below b2
        rcases A1.out.ck.mem.at_ with rfl | ⟨_, rfl⟩
        · obtain ⟨C, t, hb, _⟩ := A1.out.ck.mem.row rfl
          exact ⟨rb2, o2, lt_of_get hb, s2⟩
        · exact ⟨ab, o2.redo ab s4 s7, hh3, fun e => s6 e.symm⟩
      have u1 := o2.lay
      have hsep : Hid (c ≠ c2 ∧ c ≠ rb3 ∧ rb4 ≠ c2 ∧ rb4 ≠ rb3 ∧ r ≠ c ∧ r ≠ rb4 ∧ r ≠ c2 ∧ r ≠ rb3 ∧ w.heap.size ≤ c ∧ w.heap.size ≤ rb4) := (show c ≠ c2 ∧ c ≠ rb3 ∧ rb4 ≠ c2 ∧ rb4 ≠ rb3 ∧ r ≠ c ∧ r ≠ rb4 ∧ r ≠ c2 ∧ r ≠ rb3 ∧ w.heap.size ≤ c ∧ w.heap.size ≤ rb4 from by omega)
      have O2 := Lib.hid o2
      have Y2 := Lib.hid y2
      have R2 := Lib.hid (A1.out.rc.keep (below_keep b2) (fun h => h))
      clear A1 h2 l2 l3 b2 hh1 hh2 hh3 s1 s2 s3 s4 s5 s6 s7 t1 t2 t3 hr9 y2 o2 hrb4 hr4 u1 x0 x1 x2 x3 hrb
      go_wp2_with fail
      refine (cellsOn_any c rb4 aoc capc m w2 O2.out.mem).mono ?_
      rintro e w3 ⟨rfl, h3, k3⟩
      have O3 := Lib.hid (O2.out.stepC k3 h3)
      have Y3 := Lib.hid (Y2.out.far k3 (fun b (hb : b = c) => by have := hsep.out; omega))
      have R3 := Lib.hid (R2.out.keep k3 (fun hb => by have := hsep.out; omega))
      clear h3 k3 O2 Y2 R2
      have mo : CMOk (⟨m.bs, false, -1, m.wr⟩ : CM) (200 * i + 200) := ⟨by show (-1 : Int) ≤ -1; decide, by show (-1 : Int) ≤ 9223372036854775807; decide, M1.out.w0, M1.out.w1⟩
      have MO := Lib.hid mo
      clear mo
      go_wp2_with fail
      refine (ak_write B sa w c rb4 aoc capc _ 0 _ w3 O3.out (200 * i + 200) MO.out (by omega)).mono ?_
      rintro e w4 ⟨rfl, h4, k4⟩
      have C9 := Lib.hid (Y3.out.far k4 (fun b (hb : b = c ∨ b = rb4) => by have := hsep.out; omega))
      have R9 := Lib.hid (R3.out.keep k4 (fun hb => by have := hsep.out; omega))
      have N9 : Hid (r ≠ c2 ∧ r ≠ rb3) := (show r ≠ c2 ∧ r ≠ rb3 from by have := hsep.out; omega)
      have M9 := M1
      clear h4 k4 O3 Y3 R3 M1 MO hsep q0 q1 q2 q3
      go_wp2_with fail
      obtain ⟨left9, cuts9, rr9⟩ := R9.out
      obtain ⟨z0, z1, z2, z3, z4, zf⟩ := rcells_cells rr9
      obtain ⟨ob, hob⟩ : ∃ ob, ob = m.off := ⟨_, rfl⟩
      have hpo : ((!ob) == ob) = false := by cases ob <;> rfl
      rw [← hob] at z1
      have HPW : Hid (∀ n : Nat, ∀ W : World, W = w4 → Calls Tryd.prog 40 #[.pointer (some ⟨c2, 0, none⟩)] (W.drewN n) (fun e w' => e = .returned (.bool (!ob)) ∧ W.drewN n = w')) := (show ∀ n : Nat, ∀ W : World, W = w4 → Calls Tryd.prog 40 #[.pointer (some ⟨c2, 0, none⟩)] (W.drewN n) (fun e w' => e = .returned (.bool (!ob)) ∧ W.drewN n = w') from fun n W hW => by subst hW; rw [hob]; exact cellsPower_any c2 rb3 _ _ _ _ (C9.out.mem.drw _))
      clear rr9 hob
      go_quiet (first | (go_at_call 38; exact quiet_of_eq (cellsBytes_any c2 rb3 _ _ _ _ (C9.out.mem.drw _))) | (go_at_call 40; exact quiet_of_eq (HPW.out _ _ rfl)) | (go_at_call 39; exact quiet_of_eq (cellsWritten_any c2 rb3 _ _ _ _ (C9.out.mem.drw _))))
      go_wp2_with fail
      go_roundw
      case rel => exact ⟨i + 1, c2, rb3, _, _, m, by omega, rfl, by go_num, (by have := M9.out; rw [show (200 * ((i + 1 : Nat) : Int)) = 200 * i + 200 by omega]; exact this), C9.out.still (keep_drewN0 _ _), R9.out.keep (keep_drewN0 _ _) (fun h => h), N9⟩
      case measure => simp [intOf]; omega
    · go_wp2_with fail
      exact HEXIT.out _ _ _ _ _ _ _ _ _ _ _ _ _ _ _ _ _ _ _ _ _ _ _ _ _ _ _ _ _ _ _ _ _ _ _ _ _ _ _ _ _ _ _ _ _ _ _ _ _ _ _ _ _ _ _ _ _ _ _ _ _ _ _ _ _ _ _ _ _ _ _ _ _ _ _ _ _ _ _ _ _ _ _ _ _ _ _ _ _ _ _ _ _ _ _ _ _ _ _ _ _ _ _ _ _ _ _ _ _ _ _ _ _ _ _ _ _ _ _ _ _ _ _ _ _ _ _ _ _ _ _ _ _ _ _ _ _ _ _ _ _ _ _ _ _ _ _ _ _ _ _ _ _ _ _ _ _ _ _ _ _ _ _ _ _ _ _ _ _ _ _ _ _ _ _ _ _ _ _ _ _ _ _ _ _ _ _ _ _ _ _ _ _ _ _ _ _ _ _ _ _ _ _ _ _ _ _ _ _ _ _ _ _ _ _ _ _ _ _ _ _ _ _ _ _ _ _ hC.out.bel
end Go.Proofs.YtpodijlhlgbbdabDoor
