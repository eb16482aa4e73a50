/- Labels, plain: a label's categories, bit by bit. -/
import Derived.Test.YtckgmbkhdgcldaaDoorXBothx5
import Derived.Test.YtckgmbkhdgcldaaDoorBothLabP
namespace Go.Proofs.YtckgmbkhdgcldaaDoor.Pure
open Go.RowKit Go.Proofs.YtckgmbkhdgcldaaDoor.XBoth Go.Proofs.YtckgmbkhdgcldaaDoorW.PrintWords Go.Proofs.YtckgmbkhdgcldaaDoorW.PrintLast Go.Proofs.YtckgmbkhdgcldaaDoorW.PrintMore
set_option linter.unusedVariables false
set_option linter.unusedSimpArgs false
namespace LabP
theorem has_f (r : Int) (c : Nat) (hc : c < 4294967296) (i : Nat) (hi : i < 32) : barbicanref01_Has.f r (c : Int) (i : Int) = some (c.testBit i) := by
  unfold barbicanref01_Has.f
  have e1 : IntKind.u64.wrap (i : Int) = (i : Int) := by rw [IntKind.wrap_u64]; omega
  have e2 : shr .u32 (c : Int) (i : Int) = ((c / 2 ^ i : Nat) : Int) := by
    unfold shr
    rw [Int.toNat_natCast, show IntKind.u32.bits = 32 from rfl, Nat.min_eq_left (by omega)]
    rw [Int.natCast_ediv, Int.natCast_pow]
    rfl
  have hlt : c / 2 ^ i ≤ c := Nat.div_le_self _ _
  rw [e1, if_pos (by omega), e2, show ((1 : Int)) = ((1 : Nat) : Int) from rfl, u32_and_nat _ 1 (by omega) (by omega), Nat.and_one_is_mod]
  congr 1
  rw [Nat.testBit_eq_decide_div_mod_eq, Bool.eq_iff_iff, beq_iff_eq, decide_eq_true_iff]
  omega
end LabP
end Go.Proofs.YtckgmbkhdgcldaaDoor.Pure
