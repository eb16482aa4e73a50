/- How an argument of a struct's type reads: printed by this session's program. -/
import Derived.Test.YtoiakgibckgfdaaXGvx0
import Derived.Test.YtoiakgibckgfdaaXRow
import Derived.Test.YtoiakgibckgfdaaXSt56
namespace Go.Proofs.Ytoiakgibckgfdaa.XGv
open Go.RowKit Go.Proofs.YtoiakgibckgfdaaW.PrintWords Go.Proofs.YtoiakgibckgfdaaW.PrintLast Go.Proofs.YtoiakgibckgfdaaW.PrintMore
set_option linter.unusedVariables false
set_option linter.unusedSimpArgs false
def good27 (x : S27) : Prop := (fun s : ByteArray => s.size ≤ maxLen) x.f0 ∧ (fun s : ByteArray => s.size ≤ maxLen) x.f1 ∧ (fun n : Int => (Lit.int .i64 n).wf = true) x.f2 ∧ (fun n : Int => (Lit.int .i64 n).wf = true) x.f3 ∧ (fun xs : List (S56) => xs.length ≤ maxLen ∧ ∀ x ∈ xs, good56 x) x.f4 ∧ (fun n : Int => (Lit.int .i64 n).wf = true) x.f5 ∧ (fun n : Int => (Lit.int .i64 n).wf = true) x.f6
def bulk27 (x : S27) : Nat := (fun s : ByteArray => s.size + 1) x.f0 + (fun s : ByteArray => s.size + 1) x.f1 + (fun _ : Int => 1) x.f2 + (fun _ : Int => 1) x.f3 + (fun xs : List (S56) => (xs.map bulk56).sum + 1) x.f4 + (fun _ : Int => 1) x.f5 + (fun _ : Int => 1) x.f6 + 1
set_option maxRecDepth 100000 in
theorem opn27 (W : World) : Kd.Opn Try.prog W 27 k27 good27 bulk27 := by
  intro H enc fuel cs x h
  obtain ⟨xs, n, _, rfl, hl, hlen, hf⟩ := DataW.trod_struct Try.underlying27 h
  match xs, hlen with
  | [y0, y1, y2, y3, y4, y5, y6], _ =>
    have hl' : cs.length = 7 := hl.trans (by kernel_rfl)
    obtain ⟨c0, c1, c2, c3, c4, c5, c6, rfl⟩ : ∃ c0 c1 c2 c3 c4 c5 c6, cs = [c0, c1, c2, c3, c4, c5, c6] := by
      match cs, hl' with
      | [c0, c1, c2, c3, c4, c5, c6], _ => exact ⟨c0, c1, c2, c3, c4, c5, c6, rfl⟩
    have hf0 : DataW.trod enc Try.prog W 0 (fun _ => true) true n 9 (([c0, c1, c2, c3, c4, c5, c6].drop 0).take (Try.prog.cellsOf 9)) = some y0 := by simpa using hf 0 _ rfl
    rw [show Try.prog.cellsOf 9 = 1 by kernel_rfl] at hf0
    have hf1 : DataW.trod enc Try.prog W 0 (fun _ => true) true n 9 (([c0, c1, c2, c3, c4, c5, c6].drop 1).take (Try.prog.cellsOf 9)) = some y1 := by simpa using hf 1 _ rfl
    rw [show Try.prog.cellsOf 9 = 1 by kernel_rfl] at hf1
    have hf2 : DataW.trod enc Try.prog W 0 (fun _ => true) true n 3 (([c0, c1, c2, c3, c4, c5, c6].drop 2).take (Try.prog.cellsOf 3)) = some y2 := by simpa using hf 2 _ rfl
    rw [show Try.prog.cellsOf 3 = 1 by kernel_rfl] at hf2
    have hf3 : DataW.trod enc Try.prog W 0 (fun _ => true) true n 3 (([c0, c1, c2, c3, c4, c5, c6].drop 3).take (Try.prog.cellsOf 3)) = some y3 := by simpa using hf 3 _ rfl
    rw [show Try.prog.cellsOf 3 = 1 by kernel_rfl] at hf3
    have hf4 : DataW.trod enc Try.prog W 0 (fun _ => true) true n 25 (([c0, c1, c2, c3, c4, c5, c6].drop 4).take (Try.prog.cellsOf 25)) = some y4 := by simpa using hf 4 _ rfl
    rw [show Try.prog.cellsOf 25 = 1 by kernel_rfl] at hf4
    have hf5 : DataW.trod enc Try.prog W 0 (fun _ => true) true n 3 (([c0, c1, c2, c3, c4, c5, c6].drop 5).take (Try.prog.cellsOf 3)) = some y5 := by simpa using hf 5 _ rfl
    rw [show Try.prog.cellsOf 3 = 1 by kernel_rfl] at hf5
    have hf6 : DataW.trod enc Try.prog W 0 (fun _ => true) true n 3 (([c0, c1, c2, c3, c4, c5, c6].drop 6).take (Try.prog.cellsOf 3)) = some y6 := by simpa using hf 6 _ rfl
    rw [show Try.prog.cellsOf 3 = 1 by kernel_rfl] at hf6
    obtain ⟨a0, hK0, g0, b0⟩ := (Kd.opn_string Try.underlying9) H enc n _ _ hf0
    have e0 : [c0] = [Value.string a0] := hK0
    injection e0 with e0
    obtain ⟨a1, hK1, g1, b1⟩ := (Kd.opn_string Try.underlying9) H enc n _ _ hf1
    have e1 : [c1] = [Value.string a1] := hK1
    injection e1 with e1
    obtain ⟨a2, hK2, g2, b2⟩ := (Kd.opn_int Try.underlying3) H enc n _ _ hf2
    have e2 : [c2] = [Value.int .i64 a2] := hK2
    injection e2 with e2
    obtain ⟨a3, hK3, g3, b3⟩ := (Kd.opn_int Try.underlying3) H enc n _ _ hf3
    have e3 : [c3] = [Value.int .i64 a3] := hK3
    injection e3 with e3
    obtain ⟨a4, hK4, g4, b4⟩ := (Kd.opn_slice (d := k56) Try.underlying25 (by kernel_rfl) (opn56 _)) H enc n _ _ hf4
    obtain ⟨A4, p4, e4, l4, C4⟩ := hK4
    injection e4 with e4
    obtain ⟨a5, hK5, g5, b5⟩ := (Kd.opn_int Try.underlying3) H enc n _ _ hf5
    have e5 : [c5] = [Value.int .i64 a5] := hK5
    injection e5 with e5
    obtain ⟨a6, hK6, g6, b6⟩ := (Kd.opn_int Try.underlying3) H enc n _ _ hf6
    have e6 : [c6] = [Value.int .i64 a6] := hK6
    injection e6 with e6
    subst e0 e1 e2 e3 e4 e5 e6
    (try dsimp only at b0)
    (try dsimp only at b1)
    (try dsimp only at b2)
    (try dsimp only at b3)
    (try dsimp only at b4)
    (try dsimp only at b5)
    (try dsimp only at b6)
    exact ⟨⟨a0, a1, a2, a3, a4, a5, a6⟩, k27_mk W _ l4 C4, ⟨g0, g1, g2, g3, g4, g5, g6⟩, by simp only [bulk27, Go.Proofs.Ytoiakgibckgfdaa.Rows.uptoBulk, Go.Proofs.Ytoiakgibckgfdaa.Rows.uptoBulkAll, List.map_cons, List.map_nil]; (try dsimp only); omega⟩
end Go.Proofs.Ytoiakgibckgfdaa.XGv
