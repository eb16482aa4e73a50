/- Printed by this session's program (wip/print) out of the translation, for the statement named in the file's name. -/
import Derived.Test.YtckgmbkhdgcldaaDoorXOrdx0
namespace Go.Proofs.YtckgmbkhdgcldaaDoor.XOrd
open Go.RowKit Go.Proofs.YtckgmbkhdgcldaaDoorW.PrintWords Go.Proofs.YtckgmbkhdgcldaaDoorW.PrintLast Go.Proofs.YtckgmbkhdgcldaaDoorW.PrintMore Go.Proofs.YtckgmbkhdgcldaaDoor.Lab
attribute [local go_sem] str_gtr str_leq str_geq max2_int min2_int max_two min_two max_three min_three max_four min_four   -- for this text's walks alone
set_option linter.unusedVariables false
set_option linter.unusedSimpArgs false
set_option linter.unnecessarySimpa false

theorem eqA24 (d : Nat) (w : World) (x0 y0 : Int) (x1 y1 : Int) :
    (Op.equalIn (d + 2) 24 (.agg #[.int .i64 x0, .int .u32 x1]) (.agg #[.int .i64 y0, .int .u32 y1])).run Tryd.prog w = .ok (x0 == y0 && (x1 == y1)) w := by
  refine eqA_of Tryd.underlying24 (by kernel_rfl) ?_
  refine eqf_cons (by rfl) (by go_simp; rfl) (by go_simp; rfl) (by go_simp) ?_
  exact eqf_last (by rfl) (by go_simp; rfl) (by go_simp; rfl) (by go_simp)
end Go.Proofs.YtckgmbkhdgcldaaDoor.XOrd
