/- The number of an error: num. -/
import Derived.Test.YtnfnnfbcafepkaaDoorXAs
import Derived.Test.YtnfnnfbcafepkaaDoorDkL
namespace Go.Proofs.YtnfnnfbcafepkaaDoor.Dk
open Go Go.RowKit Go.Proofs.YtnfnnfbcafepkaaDoor.As
set_option linter.unusedVariables false
set_option linter.unusedSimpArgs false
set_option maxRecDepth 100000
set_option maxHeartbeats 4000000 in
theorem num_nil (w : World) : Calls Tryd.prog 10 #[.nilIface] w fun e w' => e = .returned (.int .i64 0) ∧ Below w.heap.size w w' := by
  go_enter Tryd.func10, Tryd.ntmps10
  go_wp2
  go_ret
  exact ⟨rfl, (Below.refl _ w).alloc (Nat.le_refl _) _⟩
set_option maxHeartbeats 4000000 in
theorem num_err (x : Int) (w : World) (hG : GE w) : Calls Tryd.prog 10 #[.iface 62 (.int .i64 x)] w fun e w' => e = .returned (.int .i64 x) ∧ Below w.heap.size w w' := by
  have h1 : GE (w.alloc (.cells #[.int .i64 0] 62)) := hG.below ((Below.refl _ w).alloc (Nat.le_refl _) _)
  have hn := World.alloc_heap_new w (.cells #[.int .i64 0] 62)
  have HA := Asd.mk (as_hit x ⟨w.heap.size, 0, none⟩ (.int .i64 0) _ h1 (one_cell hn) (frozen_of_row _ _ _ _ _ hn))
  clear h1 hn
  go_enter Tryd.func10, Tryd.ntmps10
  go_wp2_with (go_at_call 25; refine HA.out.mono ?_; rintro e w' ⟨rfl, rfl⟩)
  go_ret
  refine ⟨rfl, ?_⟩
  repeat (first | exact Below.refl _ _ | refine Below.alloc ?_ (by simp; omega) _ | refine Below.alloc ?_ (by simp) _)
end Go.Proofs.YtnfnnfbcafepkaaDoor.Dk
