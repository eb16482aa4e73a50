/- How an argument of a struct's type reads: printed by this session's program. -/
import Derived.Test.YtnflmaonilabgaaDoorXTcsx0
import Derived.Test.YtnflmaonilabgaaDoorXRow
import Derived.Test.YtnflmaonilabgaaDoorXOpw
import Derived.Test.YtnflmaonilabgaaDoorXSt55
namespace Go.Proofs.YtnflmaonilabgaaDoor.XTcs
open Go.RowKit Go.Proofs.YtnflmaonilabgaaDoorW.PrintWords Go.Proofs.YtnflmaonilabgaaDoorW.PrintLast Go.Proofs.YtnflmaonilabgaaDoorW.PrintMore
set_option linter.unusedVariables false
set_option linter.unusedSimpArgs false
def goodw24 (x : S24) : Prop := (fun s : ByteArray => s.size ≤ 140737488351232) x.f0 ∧ (fun xs : List (S55) => xs.length * 32 ≤ 140737488351232 ∧ xs.length ≤ maxLen ∧ ∀ x ∈ xs, goodw55 x) x.f1
set_option maxRecDepth 100000 in
theorem opw24 (W : World) : Kd.Opw Tryd.prog W 24 k24 goodw24 := by
  intro H enc fuel cs x h hw
  obtain ⟨xs, n, _, rfl, hl, hlen, hf⟩ := DataW.trod_struct Tryd.underlying24 h
  match xs, hlen with
  | [y0, y1], _ =>
    have hl' : cs.length = 2 := hl.trans (by kernel_rfl)
    obtain ⟨c0, c1, rfl⟩ : ∃ c0 c1, cs = [c0, c1] := by
      match cs, hl' with
      | [c0, c1], _ => exact ⟨c0, c1, rfl⟩
    have hf0 : DataW.trod enc Tryd.prog W 0 (fun _ => true) true n 9 (([c0, c1].drop 0).take (Tryd.prog.cellsOf 9)) = some y0 := by simpa using hf 0 _ rfl
    rw [show Tryd.prog.cellsOf 9 = 1 by kernel_rfl] at hf0
    have hw0 : ∀ q ∈ y0.1.weights Tryd.prog 9, q ≤ reachBytes := fun q hq => hw q (by simp only [DataW.weights, Tryd.underlying24]; exact DataW.weights_mem_each (j := 0) rfl rfl q hq)
    have hf1 : DataW.trod enc Tryd.prog W 0 (fun _ => true) true n 22 (([c0, c1].drop 1).take (Tryd.prog.cellsOf 22)) = some y1 := by simpa using hf 1 _ rfl
    rw [show Tryd.prog.cellsOf 22 = 1 by kernel_rfl] at hf1
    have hw1 : ∀ q ∈ y1.1.weights Tryd.prog 22, q ≤ reachBytes := fun q hq => hw q (by simp only [DataW.weights, Tryd.underlying24]; exact DataW.weights_mem_each (j := 1) rfl rfl q hq)
    obtain ⟨a0, hK0, g0⟩ := (Kd.opw_string Tryd.underlying9) H enc n _ _ hf0 hw0
    have e0 : [c0] = [Value.string a0] := hK0
    injection e0 with e0
    obtain ⟨a1, hK1, g1⟩ := (Kd.opw_slice (d := k55) Tryd.underlying22 (by kernel_rfl) (by kernel_rfl) (opw55 _)) H enc n _ _ hf1 hw1
    obtain ⟨A1, p1, e1, l1, C1⟩ := hK1
    injection e1 with e1
    subst e0 e1
    exact ⟨⟨a0, a1⟩, k24_mk W _ l1 C1, ⟨g0, g1⟩⟩
end Go.Proofs.YtnflmaonilabgaaDoor.XTcs
