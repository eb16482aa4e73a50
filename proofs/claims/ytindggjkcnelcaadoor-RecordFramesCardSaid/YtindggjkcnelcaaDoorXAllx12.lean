/- Printed by this session's program (wip/print) out of the translation, for the statement named in the file's name. -/
import Derived.Test.YtindggjkcnelcaaDoorXAllx0
namespace Go.Proofs.YtindggjkcnelcaaDoor.XAll
open Go.RowKit Go.Proofs.YtindggjkcnelcaaDoorW.PrintWords Go.Proofs.YtindggjkcnelcaaDoorW.PrintLast Go.Proofs.YtindggjkcnelcaaDoorW.PrintMore Go.Proofs.YtindggjkcnelcaaDoor.As
attribute [local go_sem] max2_int min2_int max_two min_two max_three min_three max_four min_four   -- for this text's walks alone
set_option linter.unusedVariables false
set_option linter.unusedSimpArgs false

/-! ### record_check: function 25 -/
def record_check.f (a0 : Int) : Option (Option Int) := if a0 < 1 then (some (some 1)) else (if a0 > 1048576 then (some (some 2)) else (some none))
set_option maxHeartbeats 8000000 in
set_option maxRecDepth 100000 in
theorem record_check.calls (a0 : Int) (r : Option Int) (w : World) (h : record_check.f a0 = some r) :
    Calls Tryd.prog 25 #[.int .i64 a0] w fun e w' => e = .returned (errW r) ∧ Drawn0 w w' := by
  have hu25 := Tryd.underlying25
  have hu46 := Tryd.underlying46
  have H : (if a0 < 1 then (some (some 1)) else (if a0 > 1048576 then (some (some 2)) else (some none))) = some r := h
  clear h
  by_cases c2 : a0 < 1
  · rw [if_pos c2] at H
    have c2b0 : decide (a0 < 1) = true := decide_eq_true c2
    clear c2
    obtain rfl := Option.some.inj H
    go_enter Tryd.func25, Tryd.ntmps25
    go_wp2
    go_ret
    exact ⟨by first | rfl | (simp; done) | (simp [*]; done), by repeat (first | exact Drawn0.refl _ | apply Drawn0.step)⟩
  · rw [if_neg c2] at H
    have c2b0 : decide (a0 < 1) = false := decide_eq_false c2
    clear c2
    by_cases c3 : a0 > 1048576
    · rw [if_pos c3] at H
      have c3b0 : decide (1048576 < a0) = true := decide_eq_true c3
      clear c3
      obtain rfl := Option.some.inj H
      go_enter Tryd.func25, Tryd.ntmps25
      go_wp2
      go_ret
      exact ⟨by first | rfl | (simp; done) | (simp [*]; done), by repeat (first | exact Drawn0.refl _ | apply Drawn0.step)⟩
    · rw [if_neg c3] at H
      have c3b0 : decide (1048576 < a0) = false := decide_eq_false c3
      clear c3
      obtain rfl := Option.some.inj H
      go_enter Tryd.func25, Tryd.ntmps25
      go_wp2
      go_ret
      exact ⟨by first | rfl | (simp; done) | (simp [*]; done), by repeat (first | exact Drawn0.refl _ | apply Drawn0.step)⟩

end Go.Proofs.YtindggjkcnelcaaDoor.XAll
