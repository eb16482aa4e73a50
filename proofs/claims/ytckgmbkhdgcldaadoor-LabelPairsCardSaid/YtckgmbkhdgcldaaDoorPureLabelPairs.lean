/- LabelPairs, plain: of every two labels the program and the document tell the same. -/
import Derived.Test.YtckgmbkhdgcldaaDoorXLabx10
import Derived.Test.YtckgmbkhdgcldaaDoorLabLabP
import Derived.Test.YtckgmbkhdgcldaaDoorLabLabR
namespace Go.Proofs.YtckgmbkhdgcldaaDoor.Pure
open Go.RowKit Go.Proofs.YtckgmbkhdgcldaaDoor.XLab Go.Proofs.YtckgmbkhdgcldaaDoorW.PrintWords Go.Proofs.YtckgmbkhdgcldaaDoorW.PrintLast Go.Proofs.YtckgmbkhdgcldaaDoorW.PrintMore
open LabP
set_option linter.unusedVariables false
set_option linter.unusedSimpArgs false
theorem LabelPairs (a0_0 : Int) (a0_1 : Int) (a1_0 : Int) (a1_1 : Int) (g0_0 : (fun n : Int => (Lit.int .i64 n).wf = true) a0_0) (g0_1 : (fun n : Int => (Lit.int .u32 n).wf = true) a0_1) (g1_0 : (fun n : Int => (Lit.int .i64 n).wf = true) a1_0) (g1_1 : (fun n : Int => (Lit.int .u32 n).wf = true) a1_1) : ∃ k, barbicanlaw01_LabelPairs.f k a0_0 a0_1 a1_0 a1_1 = some true := by
  obtain ⟨k, hk⟩ : ∃ k : Nat, 100 ≤ k := ⟨_, Nat.le_refl _⟩
  refine ⟨k, ?_⟩
  obtain ⟨a, rfl⟩ := Int.eq_ofNat_of_zero_le (u32_wf g0_1).1
  obtain ⟨b, rfl⟩ := Int.eq_ofNat_of_zero_le (u32_wf g1_1).1
  have ha : a < 4294967296 := by have := (u32_wf g0_1).2; omega
  have hb : b < 4294967296 := by have := (u32_wf g1_1).2; omega
  unfold barbicanlaw01_LabelPairs.f
  rw [dom_f a0_0 a1_0 a b ha hb, Option.bind_some, rdom_f k a0_0 a1_0 a b ha hb (by omega), Option.bind_some, if_pos (beq_self_eq_true _), cmp_f a0_0 a1_0 a b ha hb, Option.bind_some, rcmp_f k a0_0 a1_0 a b ha hb (by omega), Option.bind_some, if_pos rfl, sure01, Option.bind_some]
end Go.Proofs.YtckgmbkhdgcldaaDoor.Pure
