/- TableBack, plain: a table's text is read as it; a text that is read is the table's only one. -/
import Derived.Test.YtnflmaonilabgaaDoorXTbkx13
import Derived.Test.YtnflmaonilabgaaDoorTbkTabP
import Derived.Test.YtnflmaonilabgaaDoorXSt55
import Derived.Test.YtnflmaonilabgaaDoorXSt24
namespace Go.Proofs.YtnflmaonilabgaaDoor.Pure
open Go.RowKit Go.Proofs.YtnflmaonilabgaaDoor.XTbk Go.Proofs.YtnflmaonilabgaaDoorW.PrintWords Go.Proofs.YtnflmaonilabgaaDoorW.PrintLast Go.Proofs.YtnflmaonilabgaaDoorW.PrintMore
set_option linter.unusedVariables false
set_option linter.unusedSimpArgs false
open TabL in
theorem TableBack (a0_0 : ByteArray) (l0_1 : List (S55)) (a1 : ByteArray) (g0_0 : (fun s : ByteArray => s.size ≤ maxLen) a0_0) (b0_0 : (fun s : ByteArray => s.size + 1) a0_0 ≤ 1048576) (g0_1 : (fun xs : List (S55) => xs.length ≤ maxLen ∧ ∀ x ∈ xs, good55 x) l0_1) (b0_1 : (fun xs : List (S55) => (xs.map bulk55).sum + 1) l0_1 ≤ 1048576) (g1 : (fun s : ByteArray => s.size ≤ maxLen) a1) (b1 : (fun s : ByteArray => s.size + 1) a1 ≤ 1048576) : ∃ k, barbicanlaw15_TableBack.f k a0_0 l0_1 a1 = some true := by
  have hlen : ∀ l : List S55, l.length ≤ (l.map bulk55).sum := by
    intro l
    induction l with
    | nil => exact Nat.le_refl _
    | cons c r ih =>
      have hb : 1 ≤ bulk55 c := by unfold bulk55; omega
      simp only [List.length_cons, List.map_cons, List.sum_cons]
      omega
  have h0 := hlen l0_1
  dsimp only at b0_1 b1
  obtain ⟨K, r, hp, hc, hu⟩ := parse_f a1 (by omega)
  -- what comes of the text, when the table's own is done
  have hrest : ∀ k, K ≤ k → 100 ≤ k → (table_Parse.f k a1).bind (fun bt210 => (if bt210.2.2.isNone = true then ((table_Text.f k bt210.1 bt210.2.1).bind fun bt217 => (if bt217.2.isNone = true then (if bt217.1.toList = a1.toList then ((barbicanlaw15_sure.f k).bind fun t220 => (some t220)) else (some false)) else (some false))) else ((barbicanref15_Same.f k bt210.1 bt210.2.1 (⟨#[]⟩ : ByteArray) ([] : List (S55))).bind fun t221 => (if t221 = true then ((barbicanlaw15_sure.f k).bind fun t222 => (some t222)) else (some false))))) = some true := by
    intro k hk hk2
    rw [hp k hk, Option.bind_some]
    rcases hc with ⟨a, l, rfl, h1, h2⟩ | ⟨rfl, _⟩
    · dsimp only
      rw [nn, text_ok k (by omega) h1, Option.bind_some]
      dsimp only
      rw [nn, if_pos (by rw [h2]), sure_f k hk2]
      rfl
    · dsimp only
      rw [ns, same_f k _ _ (by simp) (by simp; omega), Option.bind_some, bt_, sure_f k hk2]
      rfl
  by_cases hk : chk a0_0 l0_1 = none
  · have hts : (textB a0_0 l0_1).size ≤ 1048576 := by
      obtain ⟨g1, g2, g3, g4⟩ := chk_good hk
      have h1 := colsB_size g3 (fun c hc => (nm_size (g4 c hc).1).2)
      have h2 : (colsB l0_1).size = (Lib.join ((l0_1.map partB).map (·.data.toList)) (⟨#[44, 32]⟩ : ByteArray).data.toList).length := by rw [TabS.sz]; rfl
      have h3 := nm_size g1
      unfold textB
      simp only [ByteArray.size_append, sz6, sz2', sz1']
      omega
    obtain ⟨K2, r2, hp2, _, hu2⟩ := parse_f (textB a0_0 l0_1) hts
    have hr2 := hu2 a0_0 l0_1 hk rfl
    subst hr2
    refine ⟨K + K2 + l0_1.length + 200, ?_⟩
    generalize hkk : K + K2 + l0_1.length + 200 = k
    have hr := hrest k (by omega) (by omega)
    unfold barbicanlaw15_TableBack.f
    rw [twin_f a0_0 l0_1 (by omega), Option.bind_some]
    dsimp only
    rw [text_ok k (by omega) hk, Option.bind_some]
    dsimp only
    rw [nn, Option.bind_some]
    dsimp only
    rw [check_f k (by omega) a0_0 l0_1, hk, Option.bind_some, nn, if_neg (by decide), hp2 k (by omega), Option.bind_some]
    dsimp only
    rw [nn, same_f k _ _ (by omega) (by omega), Option.bind_some, bt_]
    exact hr
  · have hk' : ¬ (chk a0_0 l0_1).isNone = true := fun z => hk (Option.isNone_iff_eq_none.1 z)
    refine ⟨K + 200, ?_⟩
    generalize hkk : K + 200 = k
    have hr := hrest k (by omega) (by omega)
    unfold barbicanlaw15_TableBack.f
    rw [twin_f a0_0 l0_1 (by omega), Option.bind_some]
    dsimp only
    rw [text_f k (by omega) a0_0 l0_1, if_neg hk', Option.bind_some]
    dsimp only
    rw [ns, Option.bind_some]
    dsimp only
    rw [check_f k (by omega) a0_0 l0_1, Option.bind_some, if_neg hk', if_neg (by decide)]
    exact hr
end Go.Proofs.YtnflmaonilabgaaDoor.Pure
