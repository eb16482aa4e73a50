/- How an argument of a struct's type reads: printed by this session's program. -/
import Derived.Test.YtoiakgibckgfdaaXGvx0
import Derived.Test.YtoiakgibckgfdaaXRow
import Derived.Test.YtoiakgibckgfdaaXSt47
namespace Go.Proofs.Ytoiakgibckgfdaa.XGv
open Go.RowKit Go.Proofs.YtoiakgibckgfdaaW.PrintWords Go.Proofs.YtoiakgibckgfdaaW.PrintLast Go.Proofs.YtoiakgibckgfdaaW.PrintMore
set_option linter.unusedVariables false
set_option linter.unusedSimpArgs false
def good44 (x : S44) : Prop := (fun n : Int => (Lit.int .i64 n).wf = true) x.f0 ∧ (fun xs : List (S47) => xs.length ≤ maxLen ∧ ∀ x ∈ xs, good47 x) x.f1
def bulk44 (x : S44) : Nat := (fun _ : Int => 1) x.f0 + (fun xs : List (S47) => (xs.map bulk47).sum + 1) x.f1 + 1
set_option maxRecDepth 100000 in
theorem opn44 (W : World) : Kd.Opn Try.prog W 44 k44 good44 bulk44 := by
  intro H enc fuel cs x h
  obtain ⟨xs, n, _, rfl, hl, hlen, hf⟩ := DataW.trod_struct Try.underlying44 h
  match xs, hlen with
  | [y0, y1], _ =>
    have hl' : cs.length = 2 := hl.trans (by kernel_rfl)
    obtain ⟨c0, c1, rfl⟩ : ∃ c0 c1, cs = [c0, c1] := by
      match cs, hl' with
      | [c0, c1], _ => exact ⟨c0, c1, rfl⟩
    have hf0 : DataW.trod enc Try.prog W 0 (fun _ => true) true n 3 (([c0, c1].drop 0).take (Try.prog.cellsOf 3)) = some y0 := by simpa using hf 0 _ rfl
    rw [show Try.prog.cellsOf 3 = 1 by kernel_rfl] at hf0
    have hf1 : DataW.trod enc Try.prog W 0 (fun _ => true) true n 41 (([c0, c1].drop 1).take (Try.prog.cellsOf 41)) = some y1 := by simpa using hf 1 _ rfl
    rw [show Try.prog.cellsOf 41 = 1 by kernel_rfl] at hf1
    obtain ⟨a0, hK0, g0, b0⟩ := (Kd.opn_int Try.underlying3) H enc n _ _ hf0
    have e0 : [c0] = [Value.int .i64 a0] := hK0
    injection e0 with e0
    obtain ⟨a1, hK1, g1, b1⟩ := (Kd.opn_slice (d := k47) Try.underlying41 (by kernel_rfl) (opn47 _)) H enc n _ _ hf1
    obtain ⟨A1, p1, e1, l1, C1⟩ := hK1
    injection e1 with e1
    subst e0 e1
    (try dsimp only at b0)
    (try dsimp only at b1)
    exact ⟨⟨a0, a1⟩, k44_mk W _ l1 C1, ⟨g0, g1⟩, by simp only [bulk44, Go.Proofs.Ytoiakgibckgfdaa.Rows.uptoBulk, Go.Proofs.Ytoiakgibckgfdaa.Rows.uptoBulkAll, List.map_cons, List.map_nil]; (try dsimp only); omega⟩
end Go.Proofs.Ytoiakgibckgfdaa.XGv
