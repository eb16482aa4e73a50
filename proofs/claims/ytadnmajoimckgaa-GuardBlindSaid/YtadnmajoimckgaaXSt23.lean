/- How an argument of a struct's type reads: printed by this session's program. -/
import Derived.Test.YtadnmajoimckgaaXGbx0
import Derived.Test.YtadnmajoimckgaaXRow
import Derived.Test.YtadnmajoimckgaaXOpw
namespace Go.Proofs.Ytadnmajoimckgaa.XGb
open Go.RowKit Go.Proofs.YtadnmajoimckgaaW.PrintWords Go.Proofs.YtadnmajoimckgaaW.PrintLast Go.Proofs.YtadnmajoimckgaaW.PrintMore
set_option linter.unusedVariables false
set_option linter.unusedSimpArgs false
def goodw23 (x : S23) : Prop := (fun s : ByteArray => s.size ≤ 140737488351232) x.f0 ∧ (fun n : Int => (Lit.int .i64 n).wf = true) x.f1 ∧ (fun n : Int => (Lit.int .i64 n).wf = true) x.f2
set_option maxRecDepth 100000 in
theorem opw23 (W : World) : Kd.Opw Try.prog W 23 k23 goodw23 := by
  intro H enc fuel cs x h hw
  obtain ⟨xs, n, _, rfl, hl, hlen, hf⟩ := DataW.trod_struct Try.underlying23 h
  match xs, hlen with
  | [y0, y1, y2], _ =>
    have hl' : cs.length = 3 := hl.trans (by kernel_rfl)
    obtain ⟨c0, c1, c2, rfl⟩ : ∃ c0 c1 c2, cs = [c0, c1, c2] := by
      match cs, hl' with
      | [c0, c1, c2], _ => exact ⟨c0, c1, c2, rfl⟩
    have hf0 : DataW.trod enc Try.prog W 0 (fun _ => true) true n 9 (([c0, c1, c2].drop 0).take (Try.prog.cellsOf 9)) = some y0 := by simpa using hf 0 _ rfl
    rw [show Try.prog.cellsOf 9 = 1 by kernel_rfl] at hf0
    have hw0 : ∀ q ∈ y0.1.weights Try.prog 9, q ≤ reachBytes := fun q hq => hw q (by simp only [DataW.weights, Try.underlying23]; exact DataW.weights_mem_each (j := 0) rfl rfl q hq)
    have hf1 : DataW.trod enc Try.prog W 0 (fun _ => true) true n 3 (([c0, c1, c2].drop 1).take (Try.prog.cellsOf 3)) = some y1 := by simpa using hf 1 _ rfl
    rw [show Try.prog.cellsOf 3 = 1 by kernel_rfl] at hf1
    have hw1 : ∀ q ∈ y1.1.weights Try.prog 3, q ≤ reachBytes := fun q hq => hw q (by simp only [DataW.weights, Try.underlying23]; exact DataW.weights_mem_each (j := 1) rfl rfl q hq)
    have hf2 : DataW.trod enc Try.prog W 0 (fun _ => true) true n 3 (([c0, c1, c2].drop 2).take (Try.prog.cellsOf 3)) = some y2 := by simpa using hf 2 _ rfl
    rw [show Try.prog.cellsOf 3 = 1 by kernel_rfl] at hf2
    have hw2 : ∀ q ∈ y2.1.weights Try.prog 3, q ≤ reachBytes := fun q hq => hw q (by simp only [DataW.weights, Try.underlying23]; exact DataW.weights_mem_each (j := 2) rfl rfl q hq)
    obtain ⟨a0, hK0, g0⟩ := (Kd.opw_string Try.underlying9) H enc n _ _ hf0 hw0
    have e0 : [c0] = [Value.string a0] := hK0
    injection e0 with e0
    obtain ⟨a1, hK1, g1⟩ := (Kd.opw_of (Kd.opn_int Try.underlying3)) H enc n _ _ hf1 hw1
    have e1 : [c1] = [Value.int .i64 a1] := hK1
    injection e1 with e1
    obtain ⟨a2, hK2, g2⟩ := (Kd.opw_of (Kd.opn_int Try.underlying3)) H enc n _ _ hf2 hw2
    have e2 : [c2] = [Value.int .i64 a2] := hK2
    injection e2 with e2
    subst e0 e1 e2
    exact ⟨⟨a0, a1, a2⟩, k23_mk W _, ⟨g0, g1, g2⟩⟩
end Go.Proofs.Ytadnmajoimckgaa.XGb
