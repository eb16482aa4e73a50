/- Places in order: what place.before answers. -/
import Derived.Test.YtnfnnfbcafepkaaDoorDkN
import Derived.Deep.Draws
import Derived.Sort.Grow
import Derived.Sort.Statements
namespace Go.Proofs.YtnfnnfbcafepkaaDoor.Dk
open Go Go.RowKit
set_option linter.unusedVariables false
set_option linter.unusedSimpArgs false
set_option maxRecDepth 100000
def sgnI (a b : Int) : Int := if a < b then -1 else if b < a then 1 else 0
/-- Two places in order. -/
def cmpPl (p q : Pl) : Int := if sgnI p.1 q.1 = 0 then sgnI p.2 q.2 else sgnI p.1 q.1
set_option maxHeartbeats 4000000 in
theorem isNaN_c (a : Int) (w : World) : Calls Tryd.prog 73 #[.int .i64 a] w fun e w' => e = .returned (.bool false) ∧ w' = w := by
  have e1 : (a != a) = false := by simp
  go_enter Tryd.func73, Tryd.ntmps73
  go_wp2
  go_ret
  exact ⟨rfl, rfl⟩
set_option maxHeartbeats 4000000 in
theorem compare_c (a b : Int) (w : World) : Calls Tryd.prog 53 #[.int .i64 a, .int .i64 b] w fun e w' => e = .returned (.int .i64 (sgnI a b)) ∧ w' = w := by
  by_cases h1 : a < b
  · have e1 : decide (a < b) = true := decide_eq_true h1
    rw [show sgnI a b = -1 by unfold sgnI; rw [if_pos h1]]
    clear h1
    go_enter Tryd.func53, Tryd.ntmps53
    go_wp2_with (go_at_call 73; refine (isNaN_c _ _).mono ?_; rintro e w2 ⟨rfl, rfl⟩)
    go_ret
    exact ⟨rfl, rfl⟩
  · have e1 : decide (a < b) = false := decide_eq_false h1
    by_cases h2 : b < a
    · have e2 : decide (b < a) = true := decide_eq_true h2
      have e3 : decide (a > b) = true := decide_eq_true h2
      rw [show sgnI a b = 1 by unfold sgnI; rw [if_neg h1, if_pos h2]]
      clear h2
      clear h1
      go_enter Tryd.func53, Tryd.ntmps53
      go_wp2_with (go_at_call 73; refine (isNaN_c _ _).mono ?_; rintro e w2 ⟨rfl, rfl⟩)
      go_ret
      exact ⟨rfl, rfl⟩
    · have e2 : decide (b < a) = false := decide_eq_false h2
      have e3 : decide (a > b) = false := decide_eq_false h2
      rw [show sgnI a b = 0 by unfold sgnI; rw [if_neg h1, if_neg h2]]
      clear h2
      clear h1
      go_enter Tryd.func53, Tryd.ntmps53
      go_wp2_with (go_at_call 73; refine (isNaN_c _ _).mono ?_; rintro e w2 ⟨rfl, rfl⟩)
      go_ret
      exact ⟨rfl, rfl⟩
set_option maxHeartbeats 8000000 in
theorem compare2_c (p q : Pl) (b1 b2 : Nat) (w : World) (h1 : w.heap[b1]? = some (.cells #[.int .i64 p.1, .int .i64 p.2] 3 (0, 0))) (h2 : w.heap[b2]? = some (.cells #[.int .i64 q.1, .int .i64 q.2] 3 (0, 0))) :
    Calls Tryd.prog 41 #[.slice (some ⟨b1, 0, none⟩) 2 2, .slice (some ⟨b2, 0, none⟩) 2 2] w fun e w' => e = .returned (.int .i64 (cmpPl p q)) ∧ w' = w := by
  obtain ⟨p1, p2⟩ := p
  obtain ⟨q1, q2⟩ := q
  have c1 : w.cell? ⟨b1, 0, none⟩ = some (.int .i64 p1) ∧ w.cell? ⟨b1, 1, none⟩ = some (.int .i64 p2) := by simp [World.cell?, h1]
  have c2 : w.cell? ⟨b2, 0, none⟩ = some (.int .i64 q1) ∧ w.cell? ⟨b2, 1, none⟩ = some (.int .i64 q2) := by simp [World.cell?, h2]
  obtain ⟨c10, c11⟩ := c1
  obtain ⟨c20, c21⟩ := c2
  clear h1 h2
  by_cases e0 : sgnI p1 q1 = 0
  · have f0 : (sgnI p1 q1 != 0) = false := by simp [e0]
    by_cases e1 : sgnI p2 q2 = 0
    · have f1 : (sgnI p2 q2 != 0) = false := by simp [e1]
      rw [show cmpPl (p1, p2) (q1, q2) = 0 by unfold cmpPl; rw [if_pos e0]; exact e1]
      clear e0 e1
      go_enter Tryd.func41, Tryd.ntmps41
      go_wp2_with fail
      refine wp_loop_rounds 3 ?_
      rw [rounds_succ]
      go_wp2_with (go_at_call 53; refine (compare_c _ _ _).mono ?_; rintro e w2 ⟨rfl, rfl⟩)
      rw [rounds_succ]
      go_wp2_with (go_at_call 53; refine (compare_c _ _ _).mono ?_; rintro e w2 ⟨rfl, rfl⟩)
      rw [rounds_succ]
      go_wp2_with (go_at_call 53; refine (compare_c _ _ _).mono ?_; rintro e w2 ⟨rfl, rfl⟩)
      go_ret
      exact ⟨rfl, rfl⟩
    · have f1 : (sgnI p2 q2 != 0) = true := by simp [e1]
      rw [show cmpPl (p1, p2) (q1, q2) = sgnI p2 q2 by unfold cmpPl; rw [if_pos e0]]
      clear e0 e1
      go_enter Tryd.func41, Tryd.ntmps41
      go_wp2_with fail
      refine wp_loop_rounds 2 ?_
      rw [rounds_succ]
      go_wp2_with (go_at_call 53; refine (compare_c _ _ _).mono ?_; rintro e w2 ⟨rfl, rfl⟩)
      rw [rounds_succ]
      go_wp2_with (go_at_call 53; refine (compare_c _ _ _).mono ?_; rintro e w2 ⟨rfl, rfl⟩)
      go_ret
      exact ⟨rfl, rfl⟩
  · have f0 : (sgnI p1 q1 != 0) = true := by simp [e0]
    rw [show cmpPl (p1, p2) (q1, q2) = sgnI p1 q1 by unfold cmpPl; rw [if_neg e0]]
    clear e0
    go_enter Tryd.func41, Tryd.ntmps41
    go_wp2_with fail
    refine wp_loop_rounds 1 ?_
    rw [rounds_succ]
    go_wp2_with (go_at_call 53; refine (compare_c _ _ _).mono ?_; rintro e w2 ⟨rfl, rfl⟩)
    go_ret
    exact ⟨rfl, rfl⟩
/-- Draws and new blocks, nothing else. -/
def Grew (w w' : World) : Prop := ∃ n os, w' = Sort.grow (w.drewN n) os
set_option maxHeartbeats 8000000 in
theorem before_c (p q : Pl) (w : World) : Calls Tryd.prog 28 #[.agg #[.int .i64 p.1, .int .i64 p.2], .agg #[.int .i64 q.1, .int .i64 q.2]] w fun e w' => e = .returned (.int .i64 (cmpPl p q)) ∧ Grew w w' := by
  go_enter Tryd.func28, Tryd.ntmps28
  go_wp2_with fail
  refine (compare2_c p q _ _ _ ?_ ?_).mono ?_
  · refine (Below.heap_alloc _ _ _ (by simp)).trans ?_
    have := (MapKept.heap_alloc ((w.alloc (Obj.cells #[Value.int IntKind.i64 p.fst, Value.int IntKind.i64 p.snd] 69)).alloc (Obj.cells #[Value.int IntKind.i64 q.fst, Value.int IntKind.i64 q.snd] 69)) (Obj.cells #[Value.int IntKind.i64 p.fst, Value.int IntKind.i64 p.snd] 3)).1
    rwa [World.size_alloc, World.size_alloc] at this
  · have := (MapKept.heap_alloc (((w.alloc (Obj.cells #[Value.int IntKind.i64 p.fst, Value.int IntKind.i64 p.snd] 69)).alloc (Obj.cells #[Value.int IntKind.i64 q.fst, Value.int IntKind.i64 q.snd] 69)).alloc (Obj.cells #[Value.int IntKind.i64 p.fst, Value.int IntKind.i64 p.snd] 3)) (Obj.cells #[Value.int IntKind.i64 q.fst, Value.int IntKind.i64 q.snd] 3)).1
    rwa [World.size_alloc, World.size_alloc, World.size_alloc] at this
  rintro e w2 ⟨rfl, rfl⟩
  generalize hz : (((w.alloc (Obj.cells #[Value.int IntKind.i64 p.fst, Value.int IntKind.i64 p.snd] 69)).alloc (Obj.cells #[Value.int IntKind.i64 q.fst, Value.int IntKind.i64 q.snd] 69)).alloc (Obj.cells #[Value.int IntKind.i64 p.fst, Value.int IntKind.i64 p.snd] 3)).alloc (Obj.cells #[Value.int IntKind.i64 q.fst, Value.int IntKind.i64 q.snd] 3) = W4
  have HZ : Asd (Grew w W4) := ⟨by
    refine ⟨0, #[Obj.cells #[Value.int IntKind.i64 p.fst, Value.int IntKind.i64 p.snd] 69] ++ #[Obj.cells #[Value.int IntKind.i64 q.fst, Value.int IntKind.i64 q.snd] 69] ++ #[Obj.cells #[Value.int IntKind.i64 p.fst, Value.int IntKind.i64 p.snd] 3] ++ #[Obj.cells #[Value.int IntKind.i64 q.fst, Value.int IntKind.i64 q.snd] 3], ?_⟩
    rw [← hz, Sort.alloc_eq_grow, Sort.alloc_eq_grow, Sort.alloc_eq_grow, Sort.alloc_eq_grow, Sort.grow_grow, Sort.grow_grow, Sort.grow_grow]
    rfl⟩
  clear hz
  go_wp2_with fail
  go_ret
  exact ⟨rfl, HZ.out⟩
end Go.Proofs.YtnfnnfbcafepkaaDoor.Dk
