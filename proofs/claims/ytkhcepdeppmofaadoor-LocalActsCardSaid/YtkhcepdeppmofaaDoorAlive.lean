/- The walks of package alive: what New, Report, Count, End do to a counter's four cells. -/
import Derived.Test.YtkhcepdeppmofaaDoorBase
namespace Go.Proofs.YtkhcepdeppmofaaDoor
open Go.RowKit
set_option linter.unusedVariables false

def alivePt (cnt : Int) (pl : Nat) : Int := if cnt < 0 ∨ (pl : Int) ≤ cnt then -1 else cnt
def aliveC (p mn mx c : Int) : Obj := .cells #[.int .i64 p, .int .i64 mn, .int .i64 mx, .int .i64 c] 162

set_option maxHeartbeats 400000 in
theorem aliveNew_w (nm g ed f l : Value) (t cnt mn mx : Int) (a : Option Addr) (pl pc : Nat) (w : World) :
    Calls Tryd.prog 58 #[.agg #[nm, .int .i64 t, .slice a pl pc, .int .i64 cnt, .int .i64 mn, .int .i64 mx, g, ed, f, l]] w fun e w' =>
      e = .returned (.pointer (some ⟨w.heap.size + 1, 0, none⟩)) ∧
      (w.alloc (.cells #[nm, .int .i64 t, .slice a pl pc, .int .i64 cnt, .int .i64 mn, .int .i64 mx, g, ed, f, l] 27)).alloc (aliveC (alivePt cnt pl) mn mx 0) = w' := by
  go_enter Tryd.func58, Tryd.ntmps58
  go_wp2
  all_goals go_ret
  · rename_i h1 h2; exact ⟨rfl, by simp [aliveC, alivePt, h2]⟩
  · rename_i h1 h2; exact ⟨rfl, by rw [alivePt, if_neg (by omega)]; rfl⟩
  · rename_i h1; exact ⟨rfl, by simp [aliveC, alivePt, h1]⟩

theorem aliveNew_any (nm g ed f l : Value) (t cnt mn mx : Int) (a : Option Addr) (pl pc : Nat) (w : World) :
    Calls Tryd.prog 58 #[.agg #[nm, .int .i64 t, .slice a pl pc, .int .i64 cnt, .int .i64 mn, .int .i64 mx, g, ed, f, l]] w fun e w' =>
      ∃ b, e = .returned (.pointer (some ⟨b, 0, none⟩)) ∧ w.heap.size ≤ b ∧ w'.heap[b]? = some (aliveC (alivePt cnt pl) mn mx 0) ∧ Below w.heap.size w w' := by
  refine (aliveNew_w nm g ed f l t cnt mn mx a pl pc w).mono ?_
  rintro e w' ⟨rfl, rfl⟩
  refine ⟨_, rfl, by omega, ?_, ((Below.refl _ _).alloc (Nat.le_refl _) _).alloc (by simp) _⟩
  have := get_alloc_new (w.alloc (.cells #[nm, .int .i64 t, .slice a pl pc, .int .i64 cnt, .int .i64 mn, .int .i64 mx, g, ed, f, l] 27)) (aliveC (alivePt cnt pl) mn mx 0)
  simpa using this

theorem alive_cells {w : World} {b : Nat} {p mn mx c : Int} (h : w.heap[b]? = some (aliveC p mn mx c)) :
    w.cell? ⟨b, 0, none⟩ = some (.int .i64 p) ∧ w.cell? ⟨b, 1, none⟩ = some (.int .i64 mn) ∧ w.cell? ⟨b, 2, none⟩ = some (.int .i64 mx) ∧ w.cell? ⟨b, 3, none⟩ = some (.int .i64 c) ∧ w.frozen? ⟨b, 3, none⟩ = false := by
  unfold aliveC at h
  simp [World.cell?, World.frozen?, h]

set_option maxHeartbeats 400000 in
theorem aliveReport_hit (b : Nat) (p c : Int) (w : World) (h0 : w.cell? ⟨b, 0, none⟩ = some (.int .i64 p)) (h3 : w.cell? ⟨b, 3, none⟩ = some (.int .i64 c)) (hf : w.frozen? ⟨b, 3, none⟩ = false) (hp : 0 ≤ p) (hc : 0 ≤ c) (hc' : c ≤ 1000) :
    Calls Tryd.prog 63 #[.pointer (some ⟨b, 0, none⟩), .int .i64 p] w fun e w' =>
      e = .returned (.tuple #[]) ∧ w.setCell ⟨b, 3, none⟩ (.int .i64 (min 1000 (c + 1))) = w' := by
  go_enter Tryd.func63, Tryd.ntmps63
  go_wp2
  · go_end0
    refine ⟨rfl, ?_⟩
    rw [show min (1000 : Int) (c + 1) = c + 1 from by omega]
  · go_end0
    refine ⟨rfl, ?_⟩
    rw [show min (1000 : Int) (c + 1) = 1000 from by omega]

set_option maxHeartbeats 400000 in
theorem aliveReport_miss (b : Nat) (p q : Int) (w : World) (h0 : w.cell? ⟨b, 0, none⟩ = some (.int .i64 p)) (hp : p < 0 ∨ (q == p) = false) :
    Calls Tryd.prog 63 #[.pointer (some ⟨b, 0, none⟩), .int .i64 q] w fun e w' =>
      e = .returned (.tuple #[]) ∧ w = w' := by
  by_cases hn : p < 0
  · clear hp
    go_enter Tryd.func63, Tryd.ntmps63
    go_wp2
    all_goals go_end0
    all_goals exact ⟨rfl, rfl⟩
  · have hq := hp.resolve_left hn
    clear hp
    go_enter Tryd.func63, Tryd.ntmps63
    go_wp2
    all_goals go_end0
    all_goals exact ⟨rfl, rfl⟩

def aliveStep (p c q : Int) : Int := if 0 ≤ p ∧ q = p then min 1000 (c + 1) else c

theorem aliveReport_any (b : Nat) (p mn mx c q : Int) (w : World) (h : w.heap[b]? = some (aliveC p mn mx c)) (hc : 0 ≤ c) (hc' : c ≤ 1000) :
    Calls Tryd.prog 63 #[.pointer (some ⟨b, 0, none⟩), .int .i64 q] w fun e w' =>
      e = .returned (.tuple #[]) ∧ w'.heap[b]? = some (aliveC p mn mx (aliveStep p c q)) ∧ Keep (· = b) w w' := by
  obtain ⟨h0, h1, h2, h3, hf⟩ := alive_cells h
  by_cases hp : 0 ≤ p ∧ q = p
  · obtain ⟨hp1, rfl⟩ := hp
    refine (aliveReport_hit b q c w h0 h3 hf hp1 hc hc').mono ?_
    rintro e w' ⟨rfl, rfl⟩
    refine ⟨rfl, ?_, keep_set _ _ _ _⟩
    rw [get_setCell _ h]
    simp [aliveC, aliveStep, hp1]
  · refine (aliveReport_miss b p q w h0 ?_).mono ?_
    · by_cases hn : p < 0
      · exact .inl hn
      · exact .inr (by simp; omega)
    · rintro e w' ⟨rfl, rfl⟩
      exact ⟨rfl, by rw [aliveStep, if_neg hp]; exact h, Keep.refl _ _⟩

def aliveOk (p mn mx c : Int) (whole : Bool) : Bool := decide (p < 0) || !whole || (decide (mn ≤ c) && decide (c ≤ mx))

set_option maxHeartbeats 400000 in
theorem aliveEnd_w (b : Nat) (p mn mx c : Int) (wh : Bool) (w : World) (h0 : w.cell? ⟨b, 0, none⟩ = some (.int .i64 p)) (h1 : w.cell? ⟨b, 1, none⟩ = some (.int .i64 mn)) (h2 : w.cell? ⟨b, 2, none⟩ = some (.int .i64 mx))
    (h3 : w.cell? ⟨b, 3, none⟩ = some (.int .i64 c)) (hf : w.frozen? ⟨b, 3, none⟩ = false) :
    Calls Tryd.prog 88 #[.pointer (some ⟨b, 0, none⟩), .bool wh] w fun e w' => e = .returned (.bool (aliveOk p mn mx c wh)) ∧ w.setCell ⟨b, 3, none⟩ (.int .i64 0) = w' := by
  cases wh
  · go_enter Tryd.func88, Tryd.ntmps88
    go_wp2
    all_goals go_ret
    all_goals exact ⟨by simp [aliveOk, *] <;> omega, rfl⟩
  · by_cases hp : p < 0
    · go_enter Tryd.func88, Tryd.ntmps88
      go_wp2
      all_goals go_ret
      all_goals exact ⟨by simp [aliveOk, *] <;> omega, rfl⟩
    · by_cases hm : mn ≤ c
      · go_enter Tryd.func88, Tryd.ntmps88
        go_wp2
        all_goals go_ret
        all_goals exact ⟨by simp [aliveOk, *] <;> omega, rfl⟩
      · go_enter Tryd.func88, Tryd.ntmps88
        go_wp2
        all_goals go_ret
        all_goals exact ⟨by simp [aliveOk, *] <;> omega, rfl⟩

theorem aliveEnd_any (b : Nat) (p mn mx c : Int) (wh : Bool) (w : World) (h : w.heap[b]? = some (aliveC p mn mx c)) :
    Calls Tryd.prog 88 #[.pointer (some ⟨b, 0, none⟩), .bool wh] w fun e w' => e = .returned (.bool (aliveOk p mn mx c wh)) ∧ w'.heap[b]? = some (aliveC p mn mx 0) ∧ Keep (· = b) w w' := by
  obtain ⟨h0, h1, h2, h3, hf⟩ := alive_cells h
  refine (aliveEnd_w b p mn mx c wh w h0 h1 h2 h3 hf).mono ?_
  rintro e w' ⟨rfl, rfl⟩
  exact ⟨rfl, by rw [get_setCell _ h]; simp [aliveC], keep_set _ _ _ _⟩

end Go.Proofs.YtkhcepdeppmofaaDoor
