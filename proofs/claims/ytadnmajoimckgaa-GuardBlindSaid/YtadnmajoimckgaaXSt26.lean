/- How an argument of a struct's type reads: printed by this session's program. -/
import Derived.Test.YtadnmajoimckgaaXGbx0
import Derived.Test.YtadnmajoimckgaaXRow
import Derived.Test.YtadnmajoimckgaaXOpw
import Derived.OpenShut
namespace Go.Proofs.Ytadnmajoimckgaa.XGb
open Go.RowKit Go.Proofs.YtadnmajoimckgaaW.PrintWords Go.Proofs.YtadnmajoimckgaaW.PrintLast Go.Proofs.YtadnmajoimckgaaW.PrintMore
set_option linter.unusedVariables false
set_option linter.unusedSimpArgs false
def goodw26 (x : S26) : Prop := (fun n : Int => (Lit.int .i64 n).wf = true) x.f0 ∧ (fun n : Int => (Lit.int .i64 n).wf = true) x.f1
set_option maxRecDepth 100000 in
theorem opw26 (W : World) : Kd.Opw Try.prog W 26 k26 goodw26 := by
  intro H enc fuel cs x h hw
  obtain ⟨xs, n, _, rfl, hl, hlen, hf⟩ := DataW.trod_array Try.underlying26 h
  match xs, hlen with
  | [y0, y1], _ =>
    have hl' : cs.length = 2 := hl.trans (by kernel_rfl)
    obtain ⟨c0, c1, rfl⟩ : ∃ c0 c1, cs = [c0, c1] := by
      match cs, hl' with
      | [c0, c1], _ => exact ⟨c0, c1, rfl⟩
    have hf0 : DataW.trod enc Try.prog W 0 (fun _ => true) true n 3 (([c0, c1].drop 0).take (Try.prog.cellsOf 3)) = some y0 := by have z := hf 0 (by decide); rw [show Try.prog.cellsOf 3 = 1 by kernel_rfl] at z ⊢; simpa using z
    rw [show Try.prog.cellsOf 3 = 1 by kernel_rfl] at hf0
    have hw0 : ∀ q ∈ y0.1.weights Try.prog 3, q ≤ reachBytes := fun q hq => hw q (by simp only [DataW.weights, Try.underlying26]; exact Kd.weights_mem_all (d := y0.1) (by simp) q hq)
    have hf1 : DataW.trod enc Try.prog W 0 (fun _ => true) true n 3 (([c0, c1].drop 1).take (Try.prog.cellsOf 3)) = some y1 := by have z := hf 1 (by decide); rw [show Try.prog.cellsOf 3 = 1 by kernel_rfl] at z ⊢; simpa using z
    rw [show Try.prog.cellsOf 3 = 1 by kernel_rfl] at hf1
    have hw1 : ∀ q ∈ y1.1.weights Try.prog 3, q ≤ reachBytes := fun q hq => hw q (by simp only [DataW.weights, Try.underlying26]; exact Kd.weights_mem_all (d := y1.1) (by simp) q hq)
    obtain ⟨a0, hK0, g0⟩ := (Kd.opw_of (Kd.opn_int Try.underlying3)) H enc n _ _ hf0 hw0
    have e0 : [c0] = [Value.int .i64 a0] := hK0
    injection e0 with e0
    obtain ⟨a1, hK1, g1⟩ := (Kd.opw_of (Kd.opn_int Try.underlying3)) H enc n _ _ hf1 hw1
    have e1 : [c1] = [Value.int .i64 a1] := hK1
    injection e1 with e1
    subst e0 e1
    exact ⟨⟨a0, a1⟩, k26_mk W _, ⟨g0, g1⟩⟩
end Go.Proofs.Ytadnmajoimckgaa.XGb
