/- How an argument of a struct's type reads: printed by this session's program. -/
import Derived.Test.YtnflmaonilabgaaDoorXTcsx0
import Derived.Test.YtnflmaonilabgaaDoorXRow
import Derived.Test.YtnflmaonilabgaaDoorXOpw
namespace Go.Proofs.YtnflmaonilabgaaDoor.XTcs
open Go.RowKit Go.Proofs.YtnflmaonilabgaaDoorW.PrintWords Go.Proofs.YtnflmaonilabgaaDoorW.PrintLast Go.Proofs.YtnflmaonilabgaaDoorW.PrintMore
set_option linter.unusedVariables false
set_option linter.unusedSimpArgs false
def goodw55 (x : S55) : Prop := (fun s : ByteArray => s.size ≤ 140737488351232) x.f0 ∧ (fun n : Int => (Lit.int .i64 n).wf = true) x.f1 ∧ (fun _ : Bool => True) x.f2 ∧ (fun _ : Bool => True) x.f3
set_option maxRecDepth 100000 in
theorem opw55 (W : World) : Kd.Opw Tryd.prog W 55 k55 goodw55 := by
  intro H enc fuel cs x h hw
  obtain ⟨xs, n, _, rfl, hl, hlen, hf⟩ := DataW.trod_struct Tryd.underlying55 h
  match xs, hlen with
  | [y0, y1, y2, y3], _ =>
    have hl' : cs.length = 4 := hl.trans (by kernel_rfl)
    obtain ⟨c0, c1, c2, c3, rfl⟩ : ∃ c0 c1 c2 c3, cs = [c0, c1, c2, c3] := by
      match cs, hl' with
      | [c0, c1, c2, c3], _ => exact ⟨c0, c1, c2, c3, rfl⟩
    have hf0 : DataW.trod enc Tryd.prog W 0 (fun _ => true) true n 9 (([c0, c1, c2, c3].drop 0).take (Tryd.prog.cellsOf 9)) = some y0 := by simpa using hf 0 _ rfl
    rw [show Tryd.prog.cellsOf 9 = 1 by kernel_rfl] at hf0
    have hw0 : ∀ q ∈ y0.1.weights Tryd.prog 9, q ≤ reachBytes := fun q hq => hw q (by simp only [DataW.weights, Tryd.underlying55]; exact DataW.weights_mem_each (j := 0) rfl rfl q hq)
    have hf1 : DataW.trod enc Tryd.prog W 0 (fun _ => true) true n 3 (([c0, c1, c2, c3].drop 1).take (Tryd.prog.cellsOf 3)) = some y1 := by simpa using hf 1 _ rfl
    rw [show Tryd.prog.cellsOf 3 = 1 by kernel_rfl] at hf1
    have hw1 : ∀ q ∈ y1.1.weights Tryd.prog 3, q ≤ reachBytes := fun q hq => hw q (by simp only [DataW.weights, Tryd.underlying55]; exact DataW.weights_mem_each (j := 1) rfl rfl q hq)
    have hf2 : DataW.trod enc Tryd.prog W 0 (fun _ => true) true n 4 (([c0, c1, c2, c3].drop 2).take (Tryd.prog.cellsOf 4)) = some y2 := by simpa using hf 2 _ rfl
    rw [show Tryd.prog.cellsOf 4 = 1 by kernel_rfl] at hf2
    have hw2 : ∀ q ∈ y2.1.weights Tryd.prog 4, q ≤ reachBytes := fun q hq => hw q (by simp only [DataW.weights, Tryd.underlying55]; exact DataW.weights_mem_each (j := 2) rfl rfl q hq)
    have hf3 : DataW.trod enc Tryd.prog W 0 (fun _ => true) true n 4 (([c0, c1, c2, c3].drop 3).take (Tryd.prog.cellsOf 4)) = some y3 := by simpa using hf 3 _ rfl
    rw [show Tryd.prog.cellsOf 4 = 1 by kernel_rfl] at hf3
    have hw3 : ∀ q ∈ y3.1.weights Tryd.prog 4, q ≤ reachBytes := fun q hq => hw q (by simp only [DataW.weights, Tryd.underlying55]; exact DataW.weights_mem_each (j := 3) rfl rfl q hq)
    obtain ⟨a0, hK0, g0⟩ := (Kd.opw_string Tryd.underlying9) H enc n _ _ hf0 hw0
    have e0 : [c0] = [Value.string a0] := hK0
    injection e0 with e0
    obtain ⟨a1, hK1, g1⟩ := (Kd.opw_of (Kd.opn_int Tryd.underlying3)) H enc n _ _ hf1 hw1
    have e1 : [c1] = [Value.int .i64 a1] := hK1
    injection e1 with e1
    obtain ⟨a2, hK2, g2⟩ := (Kd.opw_of (Kd.opn_bool Tryd.underlying4)) H enc n _ _ hf2 hw2
    have e2 : [c2] = [Value.bool a2] := hK2
    injection e2 with e2
    obtain ⟨a3, hK3, g3⟩ := (Kd.opw_of (Kd.opn_bool Tryd.underlying4)) H enc n _ _ hf3 hw3
    have e3 : [c3] = [Value.bool a3] := hK3
    injection e3 with e3
    subst e0 e1 e2 e3
    exact ⟨⟨a0, a1, a2, a3⟩, k55_mk W _, ⟨g0, g1, g2, g3⟩⟩
end Go.Proofs.YtnflmaonilabgaaDoor.XTcs
