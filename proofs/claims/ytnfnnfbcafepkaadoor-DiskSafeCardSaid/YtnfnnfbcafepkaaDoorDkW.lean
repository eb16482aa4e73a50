/- The device: New. -/
import Derived.Test.YtnfnnfbcafepkaaDoorDkN
namespace Go.Proofs.YtnfnnfbcafepkaaDoor.Dk
open Go Go.RowKit
set_option linter.unusedVariables false
set_option linter.unusedSimpArgs false
set_option maxRecDepth 100000
def newSt (r s : Int) : DSt := ⟨r, s, fun _ => zeros, fun _ => none, false, false, 0⟩
theorem keys_nil : Keys (.map []) := fun kl h => by cases h
theorem safe_new {W : World} {m n : Nat} (h : owns W m n (.map [])) : SafeM W m fun _ => zeros := ⟨_, owns_size h, keys_nil, fun p hp => ⟨by simp [zeros], rfl⟩⟩
theorem pend_new {W : World} {m n : Nat} (h : owns W m n (.map [])) : PendM W m fun _ => none := ⟨_, owns_size h, keys_nil, fun p hp => rfl, fun p hp => ⟨rfl, fun b hb => by cases hb⟩⟩
set_option maxHeartbeats 4000000 in
theorem new_bad (r s : Int) (w : World) (h : ¬ (1 ≤ r ∧ r ≤ 16 ∧ 1 ≤ s ∧ s ≤ 16384)) : Calls Tryd.prog 6 #[.int .i64 r, .int .i64 s] w fun e w' => e = .returned (.tuple #[.pointer none, .iface 62 (.int .i64 1)]) ∧ w' = w := by
  by_cases c1 : r < 1
  · have e1 : decide (r < 1) = true := decide_eq_true c1
    go_enter Tryd.func6, Tryd.ntmps6
    go_wp2
    go_ret2
    exact ⟨rfl, rfl⟩
  · have e1 : decide (r < 1) = false := decide_eq_false c1
    by_cases c2 : r > 16
    · have e2 : decide (r > 16) = true := decide_eq_true c2
      have e2' : decide (16 < r) = true := decide_eq_true c2
      go_enter Tryd.func6, Tryd.ntmps6
      go_wp2
      go_ret2
      exact ⟨rfl, rfl⟩
    · have e2 : decide (r > 16) = false := decide_eq_false c2
      have e2' : decide (16 < r) = false := decide_eq_false c2
      by_cases c3 : s < 1
      · have e3 : decide (s < 1) = true := decide_eq_true c3
        go_enter Tryd.func6, Tryd.ntmps6
        go_wp2
        go_ret2
        exact ⟨rfl, rfl⟩
      · have e3 : decide (s < 1) = false := decide_eq_false c3
        have e4 : decide (s > 16384) = true := decide_eq_true (by omega)
        have e4' : decide (16384 < s) = true := decide_eq_true (by omega)
        go_enter Tryd.func6, Tryd.ntmps6
        go_wp2
        go_ret2
        exact ⟨rfl, rfl⟩
set_option maxHeartbeats 4000000 in
theorem new_c (r s : Int) (w : World) (hr : 1 ≤ r) (hr2 : r ≤ 16) (hs : 1 ≤ s) (hs2 : s ≤ 16384) : Calls Tryd.prog 6 #[.int .i64 r, .int .i64 s] w fun e w' => ∃ g ms mp, e = .returned (.tuple #[.pointer (some ⟨g, 0, none⟩), .nilIface]) ∧ DiskC w' g ms mp (newSt r s) ∧ w.heap.size ≤ g ∧ w.heap.size ≤ ms ∧ w.heap.size ≤ mp ∧ Below w.heap.size w w' := by
  have e1 : decide (r < 1) = false := decide_eq_false (by omega)
  have e2 : decide (r > 16) = false := decide_eq_false (by omega)
  have e2' : decide (16 < r) = false := decide_eq_false (by omega)
  have e3 : decide (s < 1) = false := decide_eq_false (by omega)
  have e4 : decide (s > 16384) = false := decide_eq_false (by omega)
  have e4' : decide (16384 < s) = false := decide_eq_false (by omega)
  have hu := Tryd.underlying63
  have hmm := @run_makeMap Tryd.prog
  go_enter Tryd.func6, Tryd.ntmps6
  go_wp2
  go_ret2
  have hb : Below w.heap.size w (((w.alloc (Obj.map #[] 0)).alloc (Obj.map #[] 0)).alloc (dkO w.heap.size (w.heap.size + 1) (newSt r s))) := (((Below.refl _ w).alloc (Nat.le_refl _) _).alloc (by simp) _).alloc (by simp; omega) _
  have h1 : owns (w.alloc (Obj.map #[] 0)) w.heap.size 0 (.map []) := World.ownsMap_made w _ _ _
  have h2 : owns ((w.alloc (Obj.map #[] 0)).alloc (Obj.map #[] 0)) (w.heap.size + 1) 0 (.map []) := by
    have := World.ownsMap_made (H := Unit) (w.alloc (Obj.map #[] 0)) Tryd.prog 69 secR
    rwa [World.size_alloc] at this
  refine ⟨w.heap.size + 1 + 1, w.heap.size, w.heap.size + 1, rfl, ⟨?_, safe_new ((h1.alloc _).alloc _), pend_new (h2.alloc _), by omega, ⟨hr, hr2⟩, ⟨hs, hs2⟩, ⟨by show (-9223372036854775808 : Int) ≤ 0; omega, by show (0 : Int) ≤ _; omega⟩, fun p hp => by cases hp⟩, by omega, Nat.le_refl _, by omega, hb⟩
  have := (MapKept.heap_alloc ((w.alloc (Obj.map #[] 0)).alloc (Obj.map #[] 0)) (dkO w.heap.size (w.heap.size + 1) (newSt r s))).1
  rw [World.size_alloc, World.size_alloc] at this
  exact this
end Go.Proofs.YtnfnnfbcafepkaaDoor.Dk
