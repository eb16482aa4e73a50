/- LabelOrder, plain: the labels' order, and what joins and meets two of them. -/
import Derived.Test.YtckgmbkhdgcldaaDoorXOrdx7
import Derived.Test.YtckgmbkhdgcldaaDoorOrdLabP
namespace Go.Proofs.YtckgmbkhdgcldaaDoor.Pure
open Go.RowKit Go.Proofs.YtckgmbkhdgcldaaDoor.XOrd Go.Proofs.YtckgmbkhdgcldaaDoorW.PrintWords Go.Proofs.YtckgmbkhdgcldaaDoorW.PrintLast Go.Proofs.YtckgmbkhdgcldaaDoorW.PrintMore
open LabP
set_option linter.unusedVariables false
set_option linter.unusedSimpArgs false
namespace LabO
/-- The first of two dominates the second. -/
def dm (x : Int) (a : Nat) (y : Int) (b : Nat) : Bool := decide (x ≥ y) && sub b a
theorem dm_refl (x : Int) (a : Nat) (ha : a < 4294967296) : dm x a x a = true := by
  unfold dm
  rw [sub_self a ha, decide_eq_true (show x ≥ x from Int.le_refl x)]
  rfl
theorem sub_trans (a b c : Nat) (ha : a < 4294967296) (hb : b < 4294967296) (hc : c < 4294967296) (h1 : sub a b = true) (h2 : sub b c = true) : sub a c = true :=
  (sub_iff c a hc ha).2 fun i hi => (sub_iff c b hc hb).1 h2 i ((sub_iff b a hb ha).1 h1 i hi)
theorem dm_trans (x y z : Int) (a b c : Nat) (ha : a < 4294967296) (hb : b < 4294967296) (hc : c < 4294967296) (h1 : dm x a y b = true) (h2 : dm y b z c = true) : dm x a z c = true := by
  unfold dm at *
  rw [Bool.and_eq_true, decide_eq_true_iff] at *
  exact ⟨by omega, sub_trans c b a hc hb ha h2.2 h1.2⟩
theorem dm_anti (x y : Int) (a b : Nat) (ha : a < 4294967296) (hb : b < 4294967296) (h1 : dm x a y b = true) (h2 : dm y b x a = true) : x = y ∧ a = b := anti x y a b ha hb h1 h2
theorem or_lt (a b : Nat) (ha : a < 4294967296) (hb : b < 4294967296) : a ||| b < 4294967296 := Nat.or_lt_two_pow (n := 32) ha hb
theorem and_lt (a b : Nat) (ha : a < 4294967296) : a &&& b < 4294967296 := Nat.lt_of_le_of_lt Nat.and_le_left ha
theorem sub_or (a b c : Nat) (ha : a < 4294967296) (hb : b < 4294967296) (hc : c < 4294967296) : sub (a ||| b) c = (sub a c && sub b c) := by
  rw [Bool.eq_iff_iff, Bool.and_eq_true, sub_iff c _ hc (or_lt a b ha hb), sub_iff c a hc ha, sub_iff c b hc hb]
  constructor
  · intro h
    exact ⟨fun i hi => h i (by rw [Nat.testBit_or, hi, Bool.true_or]), fun i hi => h i (by rw [Nat.testBit_or, hi, Bool.or_true])⟩
  · intro h i hi
    rw [Nat.testBit_or, Bool.or_eq_true] at hi
    exact hi.elim (h.1 i) (h.2 i)
theorem sub_and (a b c : Nat) (ha : a < 4294967296) (hb : b < 4294967296) (hc : c < 4294967296) : sub c (a &&& b) = (sub c a && sub c b) := by
  rw [Bool.eq_iff_iff, Bool.and_eq_true, sub_iff _ c (and_lt a b ha) hc, sub_iff a c ha hc, sub_iff b c hb hc]
  constructor
  · intro h
    refine ⟨fun i hi => ?_, fun i hi => ?_⟩
    · have h1 := h i hi
      rw [Nat.testBit_and, Bool.and_eq_true] at h1
      exact h1.1
    · have h1 := h i hi
      rw [Nat.testBit_and, Bool.and_eq_true] at h1
      exact h1.2
  · intro h i hi
    rw [Nat.testBit_and, h.1 i hi, h.2 i hi]
    rfl
theorem dm_join (x y z : Int) (a b c : Nat) (ha : a < 4294967296) (hb : b < 4294967296) (hc : c < 4294967296) : dm z c (mx x y) (a ||| b) = (dm z c x a && dm z c y b) := by
  unfold dm
  rw [sub_or a b c ha hb hc]
  have h : decide (z ≥ mx x y) = (decide (z ≥ x) && decide (z ≥ y)) := by
    rw [Bool.eq_iff_iff, Bool.and_eq_true, decide_eq_true_iff, decide_eq_true_iff, decide_eq_true_iff]
    unfold mx
    split <;> omega
  rw [h]
  cases decide (z ≥ x) <;> cases decide (z ≥ y) <;> cases sub a c <;> cases sub b c <;> rfl
theorem dm_meet (x y z : Int) (a b c : Nat) (ha : a < 4294967296) (hb : b < 4294967296) (hc : c < 4294967296) : dm (mn x y) (a &&& b) z c = (dm x a z c && dm y b z c) := by
  unfold dm
  rw [sub_and a b c ha hb hc]
  have h : decide (mn x y ≥ z) = (decide (x ≥ z) && decide (y ≥ z)) := by
    rw [Bool.eq_iff_iff, Bool.and_eq_true, decide_eq_true_iff, decide_eq_true_iff, decide_eq_true_iff]
    unfold mn
    split <;> omega
  rw [h]
  cases decide (x ≥ z) <;> cases decide (y ≥ z) <;> cases sub c a <;> cases sub c b <;> rfl
theorem mx_comm (x y : Int) : mx x y = mx y x := by
  unfold mx
  split <;> split <;> omega
theorem mn_comm (x y : Int) : mn x y = mn y x := by
  unfold mn
  split <;> split <;> omega
end LabO
open LabO
theorem LabelOrder (a0_0 : Int) (a0_1 : Int) (a1_0 : Int) (a1_1 : Int) (a2_0 : Int) (a2_1 : Int) (g0_0 : (fun n : Int => (Lit.int .i64 n).wf = true) a0_0) (g0_1 : (fun n : Int => (Lit.int .u32 n).wf = true) a0_1) (g1_0 : (fun n : Int => (Lit.int .i64 n).wf = true) a1_0) (g1_1 : (fun n : Int => (Lit.int .u32 n).wf = true) a1_1) (g2_0 : (fun n : Int => (Lit.int .i64 n).wf = true) a2_0) (g2_1 : (fun n : Int => (Lit.int .u32 n).wf = true) a2_1) : ∃ k, barbicanlaw01_LabelOrder.f k a0_0 a0_1 a1_0 a1_1 a2_0 a2_1 = some true := by
  refine ⟨4, ?_⟩
  obtain ⟨a, rfl⟩ := Int.eq_ofNat_of_zero_le (u32_wf g0_1).1
  obtain ⟨b, rfl⟩ := Int.eq_ofNat_of_zero_le (u32_wf g1_1).1
  obtain ⟨c, rfl⟩ := Int.eq_ofNat_of_zero_le (u32_wf g2_1).1
  have ha : a < 4294967296 := by have := (u32_wf g0_1).2; omega
  have hb : b < 4294967296 := by have := (u32_wf g1_1).2; omega
  have hc : c < 4294967296 := by have := (u32_wf g2_1).2; omega
  clear g0_0 g0_1 g1_0 g1_1 g2_0 g2_1
  generalize a0_0 = x
  generalize a1_0 = y
  generalize a2_0 = z
  have hor : Go.bits .or .u32 (a : Int) (b : Int) = ((a ||| b : Nat) : Int) := u32_or_nat a b ha hb
  have hor' : Go.bits .or .u32 (b : Int) (a : Int) = ((a ||| b : Nat) : Int) := by rw [u32_or_nat b a hb ha, Nat.or_comm]
  have hand : Go.bits .and .u32 (a : Int) (b : Int) = ((a &&& b : Nat) : Int) := u32_and_nat a b ha hb
  have hand' : Go.bits .and .u32 (b : Int) (a : Int) = ((a &&& b : Nat) : Int) := by rw [u32_and_nat b a hb ha, Nat.and_comm]
  have hol := or_lt a b ha hb
  have hal := and_lt a b ha
  have D : ∀ (x y : Int) (a b : Nat), a < 4294967296 → b < 4294967296 → label_Dominates.f x (a : Int) y (b : Int) = some (dm x a y b) := dom_f
  have hja := dm_join x y (mx x y) a b (a ||| b) ha hb hol
  rw [dm_refl _ _ hol] at hja
  obtain ⟨hja, hjb⟩ : dm (mx x y) (a ||| b) x a = true ∧ dm (mx x y) (a ||| b) y b = true := by rw [← Bool.and_eq_true]; exact hja.symm
  have hma := dm_meet x y (mn x y) a b (a &&& b) ha hb hal
  rw [dm_refl _ _ hal] at hma
  obtain ⟨hma, hmb⟩ : dm x a (mn x y) (a &&& b) = true ∧ dm y b (mn x y) (a &&& b) = true := by rw [← Bool.and_eq_true]; exact hma.symm
  have j3 : ∀ k, barbicanlaw01_LabelOrder.j3 (k + 1) (dm z c x a && dm z c y b) (dm x a z c && dm y b z c) false x a y b z c (mx x y) ((a ||| b : Nat) : Int) (mn x y) ((a &&& b : Nat) : Int) = some true := by
    intro k
    rw [barbicanlaw01_LabelOrder.j3, if_neg (by simp), D _ _ _ _ hc hol, Option.bind_some, dm_join x y z a b c ha hb hc, if_pos (by simp), D _ _ _ _ hal hc, Option.bind_some, dm_meet x y z a b c ha hb hc, if_pos (by simp)]
    unfold label_Join.f label_Meet.f
    rw [Option.bind_some, hor', mx_comm y x, if_pos (by simp), Option.bind_some, hand', mn_comm y x, if_pos (by simp), sure01]
    rfl
  have j2 : ∀ k, barbicanlaw01_LabelOrder.j2 (k + 2) (dm z c x a && dm z c y b) (dm x a z c && dm y b z c) false x a y b z c (mx x y) ((a ||| b : Nat) : Int) (mn x y) ((a &&& b : Nat) : Int) = some true := by
    intro k
    rw [barbicanlaw01_LabelOrder.j2, if_neg (by simp), D _ _ _ _ hol ha, Option.bind_some, hja, if_pos rfl, D _ _ _ _ hol hb, Option.bind_some, hjb, if_pos rfl, D _ _ _ _ ha hal, Option.bind_some, hma, if_pos rfl, D _ _ _ _ hb hal, Option.bind_some, hmb]
    exact j3 k
  have j1 : ∀ k, barbicanlaw01_LabelOrder.j1 (k + 3) (dm z c x a && dm z c y b) (dm x a z c && dm y b z c) x a y b z c (mx x y) ((a ||| b : Nat) : Int) (mn x y) ((a &&& b : Nat) : Int) = some true := by
    intro k
    have hA := dm_anti x y a b ha hb
    have hT := dm_trans x y z a b c ha hb hc
    rw [barbicanlaw01_LabelOrder.j1]
    simp only [D _ _ _ _ ha ha, D _ _ _ _ ha hb, D _ _ _ _ hb ha, D _ _ _ _ hb hc, D _ _ _ _ ha hc, Option.bind_some, dm_refl x a ha, if_true]
    have tail : (if dm x a y b = true then (if dm y b z c = true then barbicanlaw01_LabelOrder.j2 (k + 2) (dm z c x a && dm z c y b) (dm x a z c && dm y b z c) (!dm x a z c) x a y b z c (mx x y) ((a ||| b : Nat) : Int) (mn x y) ((a &&& b : Nat) : Int) else barbicanlaw01_LabelOrder.j2 (k + 2) (dm z c x a && dm z c y b) (dm x a z c && dm y b z c) false x a y b z c (mx x y) ((a ||| b : Nat) : Int) (mn x y) ((a &&& b : Nat) : Int)) else barbicanlaw01_LabelOrder.j2 (k + 2) (dm z c x a && dm z c y b) (dm x a z c && dm y b z c) false x a y b z c (mx x y) ((a ||| b : Nat) : Int) (mn x y) ((a &&& b : Nat) : Int)) = some true := by
      by_cases h1 : dm x a y b = true
      · rw [if_pos h1]
        by_cases h2 : dm y b z c = true
        · rw [if_pos h2]
          have h3 := hT h1 h2
          have h4 := j2 k
          rw [h3] at h4
          rw [h3]
          exact h4
        · rw [if_neg h2]
          exact j2 k
      · rw [if_neg h1]
        exact j2 k
    by_cases h1 : dm x a y b = true
    · rw [if_pos h1]
      by_cases h2 : dm y b x a = true
      · rw [if_pos h2, if_neg (by obtain ⟨e1, e2⟩ := hA h1 h2; subst e1; subst e2; simp)]
        exact tail
      · rw [if_neg h2]
        exact tail
    · rw [if_neg h1]
      exact tail
  have j0 : ∀ k, barbicanlaw01_LabelOrder.j0 (k + 4) (dm z c x a && dm z c y b) x a y b z c (mx x y) ((a ||| b : Nat) : Int) (mn x y) ((a &&& b : Nat) : Int) = some true := by
    intro k
    have h := j1 k
    rw [barbicanlaw01_LabelOrder.j0, D _ _ _ _ ha hc, Option.bind_some]
    by_cases h1 : dm x a z c = true
    · rw [if_pos h1, D _ _ _ _ hb hc, Option.bind_some]
      rw [h1, Bool.true_and] at h
      exact h
    · rw [if_neg h1]
      rw [Bool.eq_false_iff.2 h1, Bool.false_and] at h
      exact h
  unfold barbicanlaw01_LabelOrder.f label_Join.f label_Meet.f
  rw [Option.bind_some, Option.bind_some, hor, hand, D _ _ _ _ hc ha, Option.bind_some]
  have h := j0 0
  by_cases h1 : dm z c x a = true
  · rw [if_pos h1, D _ _ _ _ hc hb, Option.bind_some]
    rw [h1, Bool.true_and] at h
    exact h
  · rw [if_neg h1]
    rw [Bool.eq_false_iff.2 h1, Bool.false_and] at h
    exact h
end Go.Proofs.YtckgmbkhdgcldaaDoor.Pure
