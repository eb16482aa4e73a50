/- How an argument of a struct's type reads: printed by this session's program. -/
import Derived.Test.YtgcaalgaellciaaGreatDoorXLamx0
import Derived.Test.YtgcaalgaellciaaGreatDoorXRow
import Derived.Test.YtgcaalgaellciaaGreatDoorXOpw
namespace Go.Proofs.YtgcaalgaellciaaGreatDoor.XLam
open Go.RowKit Go.Proofs.YtgcaalgaellciaaGreatDoorW.PrintWords Go.Proofs.YtgcaalgaellciaaGreatDoorW.PrintLast Go.Proofs.YtgcaalgaellciaaGreatDoorW.PrintMore
set_option linter.unusedVariables false
set_option linter.unusedSimpArgs false
def goodw37 (x : S37) : Prop := (fun n : Int => (Lit.int .i64 n).wf = true) x.f0 ∧ (fun n : Int => (Lit.int .u32 n).wf = true) x.f1
set_option maxRecDepth 100000 in
theorem opw37 (W : World) : Kd.Opw Tryz.prog W 37 k37 goodw37 := by
  intro H enc fuel cs x h hw
  obtain ⟨xs, n, _, rfl, hl, hlen, hf⟩ := DataW.trod_struct Tryz.underlying37 h
  match xs, hlen with
  | [y0, y1], _ =>
    have hl' : cs.length = 2 := hl.trans (by kernel_rfl)
    obtain ⟨c0, c1, rfl⟩ : ∃ c0 c1, cs = [c0, c1] := by
      match cs, hl' with
      | [c0, c1], _ => exact ⟨c0, c1, rfl⟩
    have hf0 : DataW.trod enc Tryz.prog W 0 (fun _ => true) true n 3 (([c0, c1].drop 0).take (Tryz.prog.cellsOf 3)) = some y0 := by simpa using hf 0 _ rfl
    rw [show Tryz.prog.cellsOf 3 = 1 by kernel_rfl] at hf0
    have hw0 : ∀ q ∈ y0.1.weights Tryz.prog 3, q ≤ reachBytes := fun q hq => hw q (by simp only [DataW.weights, Tryz.underlying37]; exact DataW.weights_mem_each (j := 0) rfl rfl q hq)
    have hf1 : DataW.trod enc Tryz.prog W 0 (fun _ => true) true n 35 (([c0, c1].drop 1).take (Tryz.prog.cellsOf 35)) = some y1 := by simpa using hf 1 _ rfl
    rw [show Tryz.prog.cellsOf 35 = 1 by kernel_rfl] at hf1
    have hw1 : ∀ q ∈ y1.1.weights Tryz.prog 35, q ≤ reachBytes := fun q hq => hw q (by simp only [DataW.weights, Tryz.underlying37]; exact DataW.weights_mem_each (j := 1) rfl rfl q hq)
    obtain ⟨a0, hK0, g0⟩ := (Kd.opw_of (Kd.opn_int Tryz.underlying3)) H enc n _ _ hf0 hw0
    have e0 : [c0] = [Value.int .i64 a0] := hK0
    injection e0 with e0
    obtain ⟨a1, hK1, g1⟩ := (Kd.opw_of (Kd.opn_int Tryz.underlying35)) H enc n _ _ hf1 hw1
    have e1 : [c1] = [Value.int .u32 a1] := hK1
    injection e1 with e1
    subst e0 e1
    exact ⟨⟨a0, a1⟩, k37_mk W _, ⟨g0, g1⟩⟩
end Go.Proofs.YtgcaalgaellciaaGreatDoor.XLam
