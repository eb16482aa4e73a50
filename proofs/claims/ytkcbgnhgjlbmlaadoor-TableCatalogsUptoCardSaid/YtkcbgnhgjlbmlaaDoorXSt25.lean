/- How an argument of a struct's type reads: printed by this session's program. -/
import Derived.Test.YtkcbgnhgjlbmlaaDoorXTcx0
import Derived.Test.YtkcbgnhgjlbmlaaDoorXRow
import Derived.Test.YtkcbgnhgjlbmlaaDoorXSt39
namespace Go.Proofs.YtkcbgnhgjlbmlaaDoor.XTc
open Go.RowKit Go.Proofs.YtkcbgnhgjlbmlaaDoorW.PrintWords Go.Proofs.YtkcbgnhgjlbmlaaDoorW.PrintLast Go.Proofs.YtkcbgnhgjlbmlaaDoorW.PrintMore
set_option linter.unusedVariables false
set_option linter.unusedSimpArgs false
def good25 (x : S25) : Prop := (fun s : ByteArray => s.size ≤ maxLen) x.f0 ∧ (fun xs : List (S39) => xs.length ≤ maxLen ∧ ∀ x ∈ xs, good39 x) x.f1
def bulk25 (x : S25) : Nat := (fun s : ByteArray => s.size + 1) x.f0 + (fun xs : List (S39) => (xs.map bulk39).sum + 1) x.f1 + 1
set_option maxRecDepth 100000 in
theorem opn25 (W : World) : Kd.Opn Tryd.prog W 25 k25 good25 bulk25 := by
  intro H enc fuel cs x h
  obtain ⟨xs, n, _, rfl, hl, hlen, hf⟩ := DataW.trod_struct Tryd.underlying25 h
  match xs, hlen with
  | [y0, y1], _ =>
    have hl' : cs.length = 2 := hl.trans (by kernel_rfl)
    obtain ⟨c0, c1, rfl⟩ : ∃ c0 c1, cs = [c0, c1] := by
      match cs, hl' with
      | [c0, c1], _ => exact ⟨c0, c1, rfl⟩
    have hf0 : DataW.trod enc Tryd.prog W 0 (fun _ => true) true n 9 (([c0, c1].drop 0).take (Tryd.prog.cellsOf 9)) = some y0 := by simpa using hf 0 _ rfl
    rw [show Tryd.prog.cellsOf 9 = 1 by kernel_rfl] at hf0
    have hf1 : DataW.trod enc Tryd.prog W 0 (fun _ => true) true n 23 (([c0, c1].drop 1).take (Tryd.prog.cellsOf 23)) = some y1 := by simpa using hf 1 _ rfl
    rw [show Tryd.prog.cellsOf 23 = 1 by kernel_rfl] at hf1
    obtain ⟨a0, hK0, g0, b0⟩ := (Kd.opn_string Tryd.underlying9) H enc n _ _ hf0
    have e0 : [c0] = [Value.string a0] := hK0
    injection e0 with e0
    obtain ⟨a1, hK1, g1, b1⟩ := (Kd.opn_slice (d := k39) Tryd.underlying23 (by kernel_rfl) (opn39 _)) H enc n _ _ hf1
    obtain ⟨A1, p1, e1, l1, C1⟩ := hK1
    injection e1 with e1
    subst e0 e1
    (try dsimp only at b0)
    (try dsimp only at b1)
    exact ⟨⟨a0, a1⟩, k25_mk W _ l1 C1, ⟨g0, g1⟩, by simp only [bulk25, Go.Proofs.YtkcbgnhgjlbmlaaDoor.Rows.uptoBulk, Go.Proofs.YtkcbgnhgjlbmlaaDoor.Rows.uptoBulkAll, List.map_cons, List.map_nil]; (try dsimp only); omega⟩
end Go.Proofs.YtkcbgnhgjlbmlaaDoor.XTc
