/- How an argument of a struct's type reads: printed by this session's program. -/
import Derived.Test.YtoiakgibckgfdaaXGvx0
import Derived.Test.YtoiakgibckgfdaaXRow
namespace Go.Proofs.Ytoiakgibckgfdaa.XGv
open Go.RowKit Go.Proofs.YtoiakgibckgfdaaW.PrintWords Go.Proofs.YtoiakgibckgfdaaW.PrintLast Go.Proofs.YtoiakgibckgfdaaW.PrintMore
set_option linter.unusedVariables false
set_option linter.unusedSimpArgs false
def good47 (x : S47) : Prop := (fun n : Int => (Lit.int .i64 n).wf = true) x.f0 ∧ (fun n : Int => (Lit.int .i64 n).wf = true) x.f1 ∧ (fun s : ByteArray => s.size ≤ maxLen) x.f2 ∧ (fun _ : Bool => True) x.f3
def bulk47 (x : S47) : Nat := (fun _ : Int => 1) x.f0 + (fun _ : Int => 1) x.f1 + (fun s : ByteArray => s.size + 1) x.f2 + (fun _ : Bool => 1) x.f3 + 1
set_option maxRecDepth 100000 in
theorem opn47 (W : World) : Kd.Opn Try.prog W 47 k47 good47 bulk47 := by
  intro H enc fuel cs x h
  obtain ⟨xs, n, _, rfl, hl, hlen, hf⟩ := DataW.trod_struct Try.underlying47 h
  match xs, hlen with
  | [y0, y1, y2, y3], _ =>
    have hl' : cs.length = 4 := hl.trans (by kernel_rfl)
    obtain ⟨c0, c1, c2, c3, rfl⟩ : ∃ c0 c1 c2 c3, cs = [c0, c1, c2, c3] := by
      match cs, hl' with
      | [c0, c1, c2, c3], _ => exact ⟨c0, c1, c2, c3, rfl⟩
    have hf0 : DataW.trod enc Try.prog W 0 (fun _ => true) true n 3 (([c0, c1, c2, c3].drop 0).take (Try.prog.cellsOf 3)) = some y0 := by simpa using hf 0 _ rfl
    rw [show Try.prog.cellsOf 3 = 1 by kernel_rfl] at hf0
    have hf1 : DataW.trod enc Try.prog W 0 (fun _ => true) true n 3 (([c0, c1, c2, c3].drop 1).take (Try.prog.cellsOf 3)) = some y1 := by simpa using hf 1 _ rfl
    rw [show Try.prog.cellsOf 3 = 1 by kernel_rfl] at hf1
    have hf2 : DataW.trod enc Try.prog W 0 (fun _ => true) true n 9 (([c0, c1, c2, c3].drop 2).take (Try.prog.cellsOf 9)) = some y2 := by simpa using hf 2 _ rfl
    rw [show Try.prog.cellsOf 9 = 1 by kernel_rfl] at hf2
    have hf3 : DataW.trod enc Try.prog W 0 (fun _ => true) true n 4 (([c0, c1, c2, c3].drop 3).take (Try.prog.cellsOf 4)) = some y3 := by simpa using hf 3 _ rfl
    rw [show Try.prog.cellsOf 4 = 1 by kernel_rfl] at hf3
    obtain ⟨a0, hK0, g0, b0⟩ := (Kd.opn_int Try.underlying3) H enc n _ _ hf0
    have e0 : [c0] = [Value.int .i64 a0] := hK0
    injection e0 with e0
    obtain ⟨a1, hK1, g1, b1⟩ := (Kd.opn_int Try.underlying3) H enc n _ _ hf1
    have e1 : [c1] = [Value.int .i64 a1] := hK1
    injection e1 with e1
    obtain ⟨a2, hK2, g2, b2⟩ := (Kd.opn_string Try.underlying9) H enc n _ _ hf2
    have e2 : [c2] = [Value.string a2] := hK2
    injection e2 with e2
    obtain ⟨a3, hK3, g3, b3⟩ := (Kd.opn_bool Try.underlying4) H enc n _ _ hf3
    have e3 : [c3] = [Value.bool a3] := hK3
    injection e3 with e3
    subst e0 e1 e2 e3
    (try dsimp only at b0)
    (try dsimp only at b1)
    (try dsimp only at b2)
    (try dsimp only at b3)
    exact ⟨⟨a0, a1, a2, a3⟩, k47_mk W _, ⟨g0, g1, g2, g3⟩, by simp only [bulk47, Go.Proofs.Ytoiakgibckgfdaa.Rows.uptoBulk, Go.Proofs.Ytoiakgibckgfdaa.Rows.uptoBulkAll, List.map_cons, List.map_nil]; (try dsimp only); omega⟩
end Go.Proofs.Ytoiakgibckgfdaa.XGv
