/- LabelBack, plain: a label's text is read as it; a text that is read is the label's only one. -/
import Derived.Test.YtckgmbkhdgcldaaDoorXLabx11
import Derived.Test.YtckgmbkhdgcldaaDoorLabLabP
namespace Go.Proofs.YtckgmbkhdgcldaaDoor.Pure
open Go.RowKit Go.Proofs.YtckgmbkhdgcldaaDoor.XLab Go.Proofs.YtckgmbkhdgcldaaDoorW.PrintWords Go.Proofs.YtckgmbkhdgcldaaDoorW.PrintLast Go.Proofs.YtckgmbkhdgcldaaDoorW.PrintMore
open LabP
set_option linter.unusedVariables false
set_option linter.unusedSimpArgs false
theorem LabelBack (a0_0 : Int) (a0_1 : Int) (a1 : ByteArray) (g0_0 : (fun n : Int => (Lit.int .i64 n).wf = true) a0_0) (g0_1 : (fun n : Int => (Lit.int .u32 n).wf = true) a0_1) (g1 : (fun s : ByteArray => s.size ≤ 140737488351232) a1) : barbicanlaw01_LabelBack.f a0_0 a0_1 a1 = some true := by
  obtain ⟨a, rfl⟩ := Int.eq_ofNat_of_zero_le (u32_wf g0_1).1
  have ha : a < 4294967296 := by have := (u32_wf g0_1).2; omega
  have hb := parse_back a1 (Nat.le_trans g1 (by omega))
  unfold barbicanlaw01_LabelBack.f
  by_cases hok : Ok a0_0 a
  · obtain ⟨r, rfl⟩ := Int.eq_ofNat_of_zero_le hok.1
    have h15 := hok.2.1
    rw [text_yes _ a hok, Option.bind_some, if_pos (by rfl), valid_yes _ a hok, Option.bind_some, if_pos (by rfl), if_neg (by decide), Int.toNat_natCast]
    dsimp only
    rw [parse_text r a (by omega) hok.2.2, Option.bind_some, if_pos (by rfl), if_neg (by simp)]
    rcases hb with ⟨p, c, hp, hc, rfl, h⟩ | h
    · rw [h, Option.bind_some, if_pos (by rfl)]
      dsimp only
      rw [text_yes _ c ⟨by omega, by omega, hc⟩, Option.bind_some, if_pos (by rfl), Int.toNat_natCast, if_pos rfl, sure01, Option.bind_some]
    · rw [h, Option.bind_some, if_neg (by simp), if_pos (by rfl), sure01, Option.bind_some]
  · rw [text_no _ a ha hok, Option.bind_some, if_neg (by simp), valid_no _ a ha hok, Option.bind_some, if_neg (by simp), if_neg (by decide)]
    rcases hb with ⟨p, c, hp, hc, rfl, h⟩ | h
    · rw [h, Option.bind_some, if_pos (by rfl)]
      dsimp only
      rw [text_yes _ c ⟨by omega, by omega, hc⟩, Option.bind_some, if_pos (by rfl), Int.toNat_natCast, if_pos rfl, sure01, Option.bind_some]
    · rw [h, Option.bind_some, if_neg (by simp), if_pos (by rfl), sure01, Option.bind_some]
end Go.Proofs.YtckgmbkhdgcldaaDoor.Pure
