/- Labels, plain: the document's answer of which dominates which. -/
import Derived.Test.YtckgmbkhdgcldaaDoorXLabx5
import Derived.Test.YtckgmbkhdgcldaaDoorLabLabP
namespace Go.Proofs.YtckgmbkhdgcldaaDoor.Pure
open Go.RowKit Go.Proofs.YtckgmbkhdgcldaaDoor.XLab Go.Proofs.YtckgmbkhdgcldaaDoorW.PrintWords Go.Proofs.YtckgmbkhdgcldaaDoorW.PrintLast Go.Proofs.YtckgmbkhdgcldaaDoorW.PrintMore
set_option linter.unusedVariables false
set_option linter.unusedSimpArgs false
namespace LabP
theorem has_f (r : Int) (c : Nat) (hc : c < 4294967296) (i : Nat) (hi : i < 32) : barbicanref01_Has.f r (c : Int) (i : Int) = some (c.testBit i) := by
  unfold barbicanref01_Has.f
  have e1 : IntKind.u64.wrap (i : Int) = (i : Int) := by rw [IntKind.wrap_u64]; omega
  have e2 : shr .u32 (c : Int) (i : Int) = ((c / 2 ^ i : Nat) : Int) := by
    unfold shr
    rw [Int.toNat_natCast, show IntKind.u32.bits = 32 from rfl, Nat.min_eq_left (by omega)]
    rw [Int.natCast_ediv, Int.natCast_pow]
    rfl
  have hlt : c / 2 ^ i ≤ c := Nat.div_le_self _ _
  rw [e1, if_pos (by omega), e2, show ((1 : Int)) = ((1 : Nat) : Int) from rfl, u32_and_nat _ 1 (by omega) (by omega), Nat.and_one_is_mod]
  congr 1
  rw [Nat.testBit_eq_decide_div_mod_eq, Bool.eq_iff_iff, beq_iff_eq, decide_eq_true_iff]
  omega
theorem rdom_yes (x y : Int) (a b : Nat) (ha : a < 4294967296) (hb : b < 4294967296) (h : ∀ j, b.testBit j = true → a.testBit j = true) (d : Nat) : ∀ k i : Nat, i + d = 32 → d < k →
    barbicanref01_Dominates.l0 k (i : Int) x (a : Int) y (b : Int) = some (decide (x ≥ y)) := by
  induction d with
  | zero =>
    intro k i hi hk
    obtain ⟨k, rfl⟩ : ∃ q, k = q + 1 := ⟨k - 1, by omega⟩
    simp only [barbicanref01_Dominates.l0]
    rw [if_neg (by omega)]
  | succ d ih =>
    intro k i hi hk
    obtain ⟨k, rfl⟩ : ∃ q, k = q + 1 := ⟨k - 1, by omega⟩
    have hr := ih k (i + 1) (by omega) (by omega)
    have e1 : wrap64 ((i : Int) + 1) = ((i + 1 : Nat) : Int) := by rw [wrap64_small _ (by omega) (by omega)]; omega
    simp only [barbicanref01_Dominates.l0]
    rw [if_pos (by omega), has_f y b hb i (by omega), Option.bind_some, e1]
    by_cases hbi : b.testBit i = true
    · rw [if_pos hbi, has_f x a ha i (by omega), Option.bind_some, if_pos (h i hbi), hr]
    · rw [if_neg hbi, hr]
theorem rdom_no (x y : Int) (a b : Nat) (ha : a < 4294967296) (hb : b < 4294967296) (j : Nat) (hj : j < 32) (h1 : b.testBit j = true) (h2 : ¬ a.testBit j = true) (d : Nat) : ∀ k i : Nat, i + d = j → d < k →
    barbicanref01_Dominates.l0 k (i : Int) x (a : Int) y (b : Int) = some false := by
  induction d with
  | zero =>
    intro k i hi hk
    obtain ⟨k, rfl⟩ : ∃ q, k = q + 1 := ⟨k - 1, by omega⟩
    obtain rfl : i = j := by omega
    simp only [barbicanref01_Dominates.l0]
    rw [if_pos (by omega), has_f y b hb i hj, Option.bind_some, if_pos h1, has_f x a ha i hj, Option.bind_some, if_neg h2]
  | succ d ih =>
    intro k i hi hk
    obtain ⟨k, rfl⟩ : ∃ q, k = q + 1 := ⟨k - 1, by omega⟩
    have hr := ih k (i + 1) (by omega) (by omega)
    have e1 : wrap64 ((i : Int) + 1) = ((i + 1 : Nat) : Int) := by rw [wrap64_small _ (by omega) (by omega)]; omega
    simp only [barbicanref01_Dominates.l0]
    rw [if_pos (by omega), has_f y b hb i (by omega), Option.bind_some, e1, has_f x a ha i (by omega)]
    by_cases hbi : b.testBit i = true
    · rw [if_pos hbi, Option.bind_some]
      by_cases hai : a.testBit i = true
      · rw [if_pos hai, hr]
      · rw [if_neg hai]
    · rw [if_neg hbi, hr]
theorem rdom_f (k : Nat) (x y : Int) (a b : Nat) (ha : a < 4294967296) (hb : b < 4294967296) (hk : 33 ≤ k) : barbicanref01_Dominates.f k x (a : Int) y (b : Int) = some (decide (x ≥ y) && sub b a) := by
  unfold barbicanref01_Dominates.f
  cases hs : sub b a with
  | true => rw [Bool.and_true]; exact rdom_yes x y a b ha hb ((sub_iff a b ha hb).1 hs) 32 k 0 (by omega) (by omega)
  | false =>
    rw [Bool.and_false]
    have h1 : ¬ ∀ i, b.testBit i = true → a.testBit i = true := fun h => by rw [(sub_iff a b ha hb).2 h] at hs; cases hs
    obtain ⟨j, hj⟩ := Classical.not_forall.1 h1
    have hj1 : b.testBit j = true := Classical.byContradiction fun h => hj fun hh => absurd hh h
    have hj2 : ¬ a.testBit j = true := fun h => hj fun _ => h
    have hlt : j < 32 := by
      rcases Nat.lt_or_ge j 32 with h | h
      · exact h
      · exfalso
        rw [Nat.testBit_lt_two_pow (Nat.lt_of_lt_of_le (show b < 2 ^ 32 by have e : (2 : Nat) ^ 32 = 4294967296 := by decide +kernel
                                                                           omega) (Nat.pow_le_pow_right (by decide) h))] at hj1
        cases hj1
    exact rdom_no x y a b ha hb j hlt hj1 hj2 j k 0 (by omega) (by omega)
theorem rcmp_f (k : Nat) (x y : Int) (a b : Nat) (ha : a < 4294967296) (hb : b < 4294967296) (hk : 34 ≤ k) : barbicanref01_Compare.f k x (a : Int) y (b : Int) = some (cmpI x y a b) := by
  obtain ⟨q, rfl⟩ : ∃ q, k = q + 1 := ⟨k - 1, by omega⟩
  unfold barbicanref01_Compare.f cmpI
  rw [rdom_f _ x y a b ha hb (by omega), Option.bind_some, rdom_f _ y x b a hb ha (by omega), Option.bind_some]
  have hanti := anti x y a b ha hb
  by_cases h1 : (decide (x ≥ y) && sub b a) = true
  · rw [if_pos h1]
    simp only [barbicanref01_Compare.j0]
    by_cases h2 : (decide (y ≥ x) && sub a b) = true
    · rw [if_pos h2, if_pos (hanti h1 h2)]
    · rw [if_neg h2, if_pos h1]
      by_cases h3 : x = y ∧ a = b
      · obtain ⟨rfl, rfl⟩ := h3
        exact absurd (by simpa using sub_self a ha) h2
      · rw [if_neg h3, if_pos h1]
  · rw [if_neg h1]
    simp only [barbicanref01_Compare.j0]
    rw [if_neg (by decide), if_neg h1]
    by_cases h3 : x = y ∧ a = b
    · obtain ⟨rfl, rfl⟩ := h3
      exact absurd (by simpa using sub_self a ha) h1
    · rw [if_neg h3, if_neg h1]
      by_cases h2 : (decide (y ≥ x) && sub a b) = true
      · rw [if_pos h2, if_pos h2]
      · rw [if_neg h2, if_neg h2]
end LabP
end Go.Proofs.YtckgmbkhdgcldaaDoor.Pure
