/- TableReads, plain: the table of every text, or the error, is the document's. -/
import Derived.Test.YtnflmaonilabgaaDoorXTabx20
import Derived.Test.YtnflmaonilabgaaDoorTabTabQ
namespace Go.Proofs.YtnflmaonilabgaaDoor.Pure
open Go.RowKit Go.Proofs.YtnflmaonilabgaaDoor.XTab Go.Proofs.YtnflmaonilabgaaDoorW.PrintWords Go.Proofs.YtnflmaonilabgaaDoorW.PrintLast Go.Proofs.YtnflmaonilabgaaDoorW.PrintMore
set_option linter.unusedVariables false
set_option linter.unusedSimpArgs false
open TabL in
theorem TableReads (a0 : ByteArray) (g0 : (fun s : ByteArray => s.size ≤ maxLen) a0) (b0 : (fun s : ByteArray => s.size + 1) a0 ≤ 1048576) : ∃ k, barbicanlaw15_TableReads.f k a0 = some true := by
  dsimp only at b0
  obtain ⟨K1, r1, p1, c1, u1⟩ := parse_f a0 (by omega)
  obtain ⟨K2, r2, p2, c2, u2⟩ := rparse_f a0 (by omega)
  rcases c1 with ⟨a, l, rfl, h1, h2⟩ | ⟨rfl, h1⟩
  · have e2 := u2 a l h1 h2
    subst e2
    obtain ⟨_, _, g3, _⟩ := chk_good h1
    refine ⟨K1 + K2 + 200, ?_⟩
    unfold barbicanlaw15_TableReads.f barbicanlaw15_num.f
    rw [p1 _ (by omega), Option.bind_some, p2 _ (by omega), Option.bind_some]
    dsimp only
    rw [same_f _ _ _ (by omega) (by omega), Option.bind_some, if_pos rfl, Option.bind_some, if_pos (show (none : Option Int).getD 0 = 0 from rfl), sure_f _ (by omega)]
    rfl
  · have e2 : r2 = ((⟨#[]⟩ : ByteArray), ([] : List (S55)), 3) := by
      rcases c2 with ⟨a, l, rfl, h3, h4⟩ | ⟨h3, _⟩
      · exact absurd h4 (h1 a l h3)
      · exact h3
    subst e2
    refine ⟨K1 + K2 + 200, ?_⟩
    unfold barbicanlaw15_TableReads.f barbicanlaw15_num.f
    rw [p1 _ (by omega), Option.bind_some, p2 _ (by omega), Option.bind_some]
    dsimp only
    rw [same_f _ _ _ (by simp) (by simp), Option.bind_some, if_pos rfl, Option.bind_some, if_pos (show (some (3 : Int)).getD 0 = 3 from rfl), sure_f _ (by omega)]
    rfl
end Go.Proofs.YtnflmaonilabgaaDoor.Pure
