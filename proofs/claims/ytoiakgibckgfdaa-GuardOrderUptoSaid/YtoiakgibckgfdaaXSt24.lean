/- How an argument of a struct's type reads: printed by this session's program. -/
import Derived.Test.YtoiakgibckgfdaaXGvx0
import Derived.Test.YtoiakgibckgfdaaXRow
import Derived.Test.YtoiakgibckgfdaaXSt81
namespace Go.Proofs.Ytoiakgibckgfdaa.XGv
open Go.RowKit Go.Proofs.YtoiakgibckgfdaaW.PrintWords Go.Proofs.YtoiakgibckgfdaaW.PrintLast Go.Proofs.YtoiakgibckgfdaaW.PrintMore
set_option linter.unusedVariables false
set_option linter.unusedSimpArgs false
def good24 (x : S24) : Prop := (fun s : ByteArray => s.size ≤ maxLen) x.f0 ∧ (fun xs : List (S81) => xs.length ≤ maxLen ∧ ∀ x ∈ xs, good81 x) x.f1
def bulk24 (x : S24) : Nat := (fun s : ByteArray => s.size + 1) x.f0 + (fun xs : List (S81) => (xs.map bulk81).sum + 1) x.f1 + 1
set_option maxRecDepth 100000 in
theorem opn24 (W : World) : Kd.Opn Try.prog W 24 k24 good24 bulk24 := by
  intro H enc fuel cs x h
  obtain ⟨xs, n, _, rfl, hl, hlen, hf⟩ := DataW.trod_struct Try.underlying24 h
  match xs, hlen with
  | [y0, y1], _ =>
    have hl' : cs.length = 2 := hl.trans (by kernel_rfl)
    obtain ⟨c0, c1, rfl⟩ : ∃ c0 c1, cs = [c0, c1] := by
      match cs, hl' with
      | [c0, c1], _ => exact ⟨c0, c1, rfl⟩
    have hf0 : DataW.trod enc Try.prog W 0 (fun _ => true) true n 9 (([c0, c1].drop 0).take (Try.prog.cellsOf 9)) = some y0 := by simpa using hf 0 _ rfl
    rw [show Try.prog.cellsOf 9 = 1 by kernel_rfl] at hf0
    have hf1 : DataW.trod enc Try.prog W 0 (fun _ => true) true n 22 (([c0, c1].drop 1).take (Try.prog.cellsOf 22)) = some y1 := by simpa using hf 1 _ rfl
    rw [show Try.prog.cellsOf 22 = 1 by kernel_rfl] at hf1
    obtain ⟨a0, hK0, g0, b0⟩ := (Kd.opn_string Try.underlying9) H enc n _ _ hf0
    have e0 : [c0] = [Value.string a0] := hK0
    injection e0 with e0
    obtain ⟨a1, hK1, g1, b1⟩ := (Kd.opn_slice (d := k81) Try.underlying22 (by kernel_rfl) (opn81 _)) H enc n _ _ hf1
    obtain ⟨A1, p1, e1, l1, C1⟩ := hK1
    injection e1 with e1
    subst e0 e1
    (try dsimp only at b0)
    (try dsimp only at b1)
    exact ⟨⟨a0, a1⟩, k24_mk W _ l1 C1, ⟨g0, g1⟩, by simp only [bulk24, Go.Proofs.Ytoiakgibckgfdaa.Rows.uptoBulk, Go.Proofs.Ytoiakgibckgfdaa.Rows.uptoBulkAll, List.map_cons, List.map_nil]; (try dsimp only); omega⟩
end Go.Proofs.Ytoiakgibckgfdaa.XGv
