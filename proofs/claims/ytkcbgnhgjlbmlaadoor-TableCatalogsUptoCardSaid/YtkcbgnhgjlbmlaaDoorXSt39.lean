/- How an argument of a struct's type reads: printed by this session's program. -/
import Derived.Test.YtkcbgnhgjlbmlaaDoorXTcx0
import Derived.Test.YtkcbgnhgjlbmlaaDoorXRow
namespace Go.Proofs.YtkcbgnhgjlbmlaaDoor.XTc
open Go.RowKit Go.Proofs.YtkcbgnhgjlbmlaaDoorW.PrintWords Go.Proofs.YtkcbgnhgjlbmlaaDoorW.PrintLast Go.Proofs.YtkcbgnhgjlbmlaaDoorW.PrintMore
set_option linter.unusedVariables false
set_option linter.unusedSimpArgs false
def good39 (x : S39) : Prop := (fun s : ByteArray => s.size ≤ maxLen) x.f0 ∧ (fun n : Int => (Lit.int .i64 n).wf = true) x.f1 ∧ (fun _ : Bool => True) x.f2 ∧ (fun _ : Bool => True) x.f3
def bulk39 (x : S39) : Nat := (fun s : ByteArray => s.size + 1) x.f0 + (fun _ : Int => 1) x.f1 + (fun _ : Bool => 1) x.f2 + (fun _ : Bool => 1) x.f3 + 1
set_option maxRecDepth 100000 in
theorem opn39 (W : World) : Kd.Opn Tryd.prog W 39 k39 good39 bulk39 := by
  intro H enc fuel cs x h
  obtain ⟨xs, n, _, rfl, hl, hlen, hf⟩ := DataW.trod_struct Tryd.underlying39 h
  match xs, hlen with
  | [y0, y1, y2, y3], _ =>
    have hl' : cs.length = 4 := hl.trans (by kernel_rfl)
    obtain ⟨c0, c1, c2, c3, rfl⟩ : ∃ c0 c1 c2 c3, cs = [c0, c1, c2, c3] := by
      match cs, hl' with
      | [c0, c1, c2, c3], _ => exact ⟨c0, c1, c2, c3, rfl⟩
    have hf0 : DataW.trod enc Tryd.prog W 0 (fun _ => true) true n 9 (([c0, c1, c2, c3].drop 0).take (Tryd.prog.cellsOf 9)) = some y0 := by simpa using hf 0 _ rfl
    rw [show Tryd.prog.cellsOf 9 = 1 by kernel_rfl] at hf0
    have hf1 : DataW.trod enc Tryd.prog W 0 (fun _ => true) true n 3 (([c0, c1, c2, c3].drop 1).take (Tryd.prog.cellsOf 3)) = some y1 := by simpa using hf 1 _ rfl
    rw [show Tryd.prog.cellsOf 3 = 1 by kernel_rfl] at hf1
    have hf2 : DataW.trod enc Tryd.prog W 0 (fun _ => true) true n 4 (([c0, c1, c2, c3].drop 2).take (Tryd.prog.cellsOf 4)) = some y2 := by simpa using hf 2 _ rfl
    rw [show Tryd.prog.cellsOf 4 = 1 by kernel_rfl] at hf2
    have hf3 : DataW.trod enc Tryd.prog W 0 (fun _ => true) true n 4 (([c0, c1, c2, c3].drop 3).take (Tryd.prog.cellsOf 4)) = some y3 := by simpa using hf 3 _ rfl
    rw [show Tryd.prog.cellsOf 4 = 1 by kernel_rfl] at hf3
    obtain ⟨a0, hK0, g0, b0⟩ := (Kd.opn_string Tryd.underlying9) H enc n _ _ hf0
    have e0 : [c0] = [Value.string a0] := hK0
    injection e0 with e0
    obtain ⟨a1, hK1, g1, b1⟩ := (Kd.opn_int Tryd.underlying3) H enc n _ _ hf1
    have e1 : [c1] = [Value.int .i64 a1] := hK1
    injection e1 with e1
    obtain ⟨a2, hK2, g2, b2⟩ := (Kd.opn_bool Tryd.underlying4) H enc n _ _ hf2
    have e2 : [c2] = [Value.bool a2] := hK2
    injection e2 with e2
    obtain ⟨a3, hK3, g3, b3⟩ := (Kd.opn_bool Tryd.underlying4) H enc n _ _ hf3
    have e3 : [c3] = [Value.bool a3] := hK3
    injection e3 with e3
    subst e0 e1 e2 e3
    (try dsimp only at b0)
    (try dsimp only at b1)
    (try dsimp only at b2)
    (try dsimp only at b3)
    exact ⟨⟨a0, a1, a2, a3⟩, k39_mk W _, ⟨g0, g1, g2, g3⟩, by simp only [bulk39, Go.Proofs.YtkcbgnhgjlbmlaaDoor.Rows.uptoBulk, Go.Proofs.YtkcbgnhgjlbmlaaDoor.Rows.uptoBulkAll, List.map_cons, List.map_nil]; (try dsimp only); omega⟩
end Go.Proofs.YtkcbgnhgjlbmlaaDoor.XTc
