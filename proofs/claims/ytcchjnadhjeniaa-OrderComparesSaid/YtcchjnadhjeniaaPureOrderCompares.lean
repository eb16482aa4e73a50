/- OrderCompares: every two lists of values compared, as the document compares them. -/
import Derived.Test.YtcchjnadhjeniaaXAllx16
import Derived.Test.YtcchjnadhjeniaaValueL
import Derived.Test.YtcchjnadhjeniaaXSt36
namespace Go.Proofs.Ytcchjnadhjeniaa.Pure
open Go.RowKit Go.Proofs.Ytcchjnadhjeniaa.XAll Go.Proofs.YtcchjnadhjeniaaW.PrintWords Go.Proofs.YtcchjnadhjeniaaW.PrintLast Go.Proofs.YtcchjnadhjeniaaW.PrintMore
set_option linter.unusedVariables false
set_option linter.unusedSimpArgs false
open ValueL
theorem own_list (a b : List S36) (ha : a.length < 4611686018427387904) (hb : b.length < 4611686018427387904) : ∀ (d i k : Nat), i + d = a.length → i ≤ b.length → 2 * d + 4 ≤ k → api_Value.l0 k a b a (a.length : Int) (i : Int) = some (lcmp (a.drop i) (b.drop i))
  | 0, i, k, hi, hib, hk => by
    obtain ⟨k, rfl⟩ : ∃ q, k = q + 2 := ⟨k - 2, by omega⟩
    simp only [api_Value.l0]
    rw [if_neg (by omega), List.drop_eq_nil_of_le (show a.length ≤ i by omega), lcmp_nil _ _ (.inl rfl), List.length_drop, List.length_nil]
    by_cases h : a.length < b.length
    · rw [if_pos (by omega), if_pos (by omega)]
    · rw [if_neg (by omega), if_neg (by omega), if_neg (by omega)]
  | d + 1, i, k, hi, hib, hk => by
    obtain ⟨k, rfl⟩ : ∃ q, k = q + 3 := ⟨k - 3, by omega⟩
    simp only [api_Value.l0]
    have ha' : i < a.length := by omega
    rw [if_pos (by omega), if_pos (by omega), if_pos (by omega)]
    by_cases h : i < b.length
    · rw [if_neg (by omega), if_pos (by omega), rd_at a i ha', rd_at b i h, value_f, Option.bind_some, List.drop_eq_getElem_cons ha', List.drop_eq_getElem_cons h]
      simp only [lcmp]
      by_cases hv : vcmp a[i] b[i] = 0
      · rw [if_pos hv, if_pos hv, show wrap64 ((i : Int) + 1) = ((i + 1 : Nat) : Int) by simp [wrap64, IntKind.wrap]; omega]
        exact own_list a b ha hb d (i + 1) (k + 2) (by omega) (by omega) (by omega)
      · rw [if_neg hv, if_neg hv]
    · rw [if_pos (by omega), List.drop_eq_nil_of_le (show b.length ≤ i by omega), lcmp_nil _ _ (.inr rfl), List.length_drop, List.length_nil, if_neg (by omega), if_pos (by omega)]
theorem twin06 (l : List S36) (h : l.length < 3518437208883) : barbicanlaw06_twin.f l = some l := by
  unfold barbicanlaw06_twin.f
  rw [if_pos (by simpa using h)]
  rfl
theorem OrderCompares (l0 : List (S36)) (l1 : List (S36)) (g0 : (fun xs : List (S36) => xs.length ≤ maxLen ∧ ∀ x ∈ xs, good36 x) l0) (b0 : l0.length * 40 ≤ 140737488351232) (g1 : (fun xs : List (S36) => xs.length ≤ maxLen ∧ ∀ x ∈ xs, good36 x) l1) (b1 : l1.length * 40 ≤ 140737488351232) : ∃ k, barbicanlaw06_OrderCompares.f k l0 l1 = some true := by
  obtain ⟨k, hk⟩ : ∃ k : Nat, 2 * l0.length + 1000 ≤ k := ⟨_, Nat.le_refl _⟩
  refine ⟨k, ?_⟩
  unfold barbicanlaw06_OrderCompares.f order_Compare.f api_Value.f barbicanref06_Compare.f
  have h1 := own_list l0 l1 (by omega) (by omega) l0.length 0 k (by omega) (by omega) (by omega)
  have h2 := ref_list l0 l1 (by omega) (by omega) l0.length 0 k (by omega) (by omega) (by omega)
  rw [show (((0 : Nat) : Int)) = 0 from rfl] at h1 h2
  rw [twin06 _ (by omega), Option.bind_some, twin06 _ (by omega), Option.bind_some, h1, Option.bind_some, Option.bind_some, h2, Option.bind_some, if_pos rfl, sure06 k (by omega), Option.bind_some]
end Go.Proofs.Ytcchjnadhjeniaa.Pure
