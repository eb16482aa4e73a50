/- A label's categories, as the loop over its bits tells them: plain numbers and lists. -/
import Derived.Lib.TrailingZeros
namespace Go.Proofs.YtgcaalgaellciaaGreatDoor.LabL
set_option linter.unusedVariables false
set_option linter.unusedSimpArgs false
/-- The letters of the categories below p. -/
def catsTo (c p : Nat) : List UInt8 := ((List.range p).filter c.testBit).map fun i => UInt8.ofNat (97 + i)
def cats (c : Nat) : List UInt8 := catsTo c 26
/-- A number without its lower bits. -/
def high (c p : Nat) : Nat := c / 2 ^ p * 2 ^ p
theorem high_bit (c p i : Nat) : (high c p).testBit i = (decide (p ≤ i) && c.testBit i) := by
  unfold high
  rw [Nat.testBit_mul_two_pow]
  by_cases h : p ≤ i
  · simp only [h, decide_true, Bool.true_and, Nat.testBit_div_two_pow]
    rw [show i - p + p = i by omega]
  · simp [h]
theorem high_zero (c : Nat) : high c 0 = c := by unfold high; simp
theorem high_all (c p : Nat) (h : c < 2 ^ p) : high c p = 0 := by unfold high; rw [Nat.div_eq_of_lt h, Nat.zero_mul]
theorem catsTo_len (c p : Nat) : (catsTo c p).length ≤ p := by
  unfold catsTo
  rw [List.length_map]
  exact Nat.le_trans (List.length_filter_le _ _) (by simp)
theorem catsTo_skip (c p : Nat) (d : Nat) (h : ∀ i, p ≤ i → i < p + d → c.testBit i = false) : catsTo c (p + d) = catsTo c p := by
  induction d with
  | zero => rfl
  | succ d ih =>
    have h1 := ih (fun i h1 h2 => h i h1 (by omega))
    unfold catsTo at h1 ⊢
    rw [show p + (d + 1) = (p + d) + 1 by omega, List.range_succ, List.filter_append, List.map_append, h1]
    simp [h (p + d) (by omega) (by omega)]
theorem catsTo_hit (c k : Nat) (h : c.testBit k = true) : catsTo c (k + 1) = catsTo c k ++ [UInt8.ofNat (97 + k)] := by
  unfold catsTo
  rw [List.range_succ, List.filter_append, List.map_append]
  simp [h]
theorem round (c p : Nat) (hc : c < 67108864) (h0 : high c p ≠ 0) :
    p ≤ Lib.ctz 32 (high c p) ∧ Lib.ctz 32 (high c p) < 26 ∧ high c p &&& (high c p - 1) = high c (Lib.ctz 32 (high c p) + 1) ∧
      catsTo c (Lib.ctz 32 (high c p) + 1) = catsTo c p ++ [UInt8.ofNat (97 + Lib.ctz 32 (high c p))] := by
  have hle : high c p ≤ c := Nat.div_mul_le_self c (2 ^ p)
  have hlt : high c p < 2 ^ 32 := by
    have e : (2 : Nat) ^ 32 = 4294967296 := by decide +kernel
    omega
  obtain ⟨m, hm, _⟩ := Lib.ctzFrom_spec 32 (high c p) (by omega) hlt
  have hz : Lib.ctz 32 (high c p) = Lib.ctzFrom 32 (high c p) := by simp [Lib.ctz, h0]
  rw [← hz] at hm
  generalize Lib.ctz 32 (high c p) = k at hm ⊢
  have bx : ∀ i, (high c p).testBit i = (decide (i ≥ k) && (2 * m + 1).testBit (i - k)) := by
    intro i
    rw [hm, Nat.mul_comm, Nat.testBit_mul_two_pow]
  have bk : c.testBit k = true ∧ p ≤ k := by
    have h1 := bx k
    rw [high_bit] at h1
    simp [Nat.testBit_zero] at h1
    exact ⟨h1.2, h1.1⟩
  have k26 : k < 26 := by
    rcases Nat.lt_or_ge k 26 with h | h
    · exact h
    · have h1 : c < 2 ^ k := Nat.lt_of_lt_of_le (show c < 2 ^ 26 by have e : (2 : Nat) ^ 26 = 67108864 := by decide +kernel
                                                                    omega) (Nat.pow_le_pow_right (by decide) h)
      rw [Nat.testBit_lt_two_pow h1] at bk
      simp at bk
  refine ⟨bk.2, k26, ?_, ?_⟩
  · apply Nat.eq_of_testBit_eq
    intro i
    have hpk : 0 < 2 ^ k := Nat.pos_of_ne_zero (by simp)
    have hx1 : high c p - 1 = 2 ^ k * (2 * m) + (2 ^ k - 1) := by
      rw [hm, Nat.mul_add, Nat.mul_one]
      omega
    rw [Nat.testBit_and, high_bit c (k + 1)]
    by_cases hi : i < k
    · rw [bx i]
      have : ¬ i ≥ k := by omega
      have h2 : ¬ k + 1 ≤ i := by omega
      simp [this, h2]
    · rw [hx1, Nat.testBit_two_pow_mul_add _ (by omega), if_neg hi]
      by_cases he : i = k
      · subst he
        have h2 : ¬ i + 1 ≤ i := by omega
        simp [h2, Nat.testBit_zero]
      · obtain ⟨j, hj⟩ : ∃ j, i - k = j + 1 := ⟨i - k - 1, by omega⟩
        have h2 : k + 1 ≤ i := by omega
        have h3 := bx i
        have h4 := high_bit c p i
        have h5 : p ≤ i := by omega
        have h6 : i ≥ k := by omega
        rw [hj] at h3 ⊢
        rw [Nat.testBit_succ, show 2 * m / 2 = m by omega]
        rw [Nat.testBit_succ, show (2 * m + 1) / 2 = m by omega] at h3
        simp only [h5, h6, h2, decide_true, Bool.true_and] at h3 h4 ⊢
        rw [← h4, h3, Bool.and_self]
  · obtain ⟨d, hd⟩ : ∃ d, k = p + d := ⟨k - p, by omega⟩
    rw [catsTo_hit c k bk.1]
    congr 1
    rw [hd]
    refine catsTo_skip c p d fun i h1 h2 => ?_
    have h3 := bx i
    rw [high_bit] at h3
    have h4 : ¬ i ≥ k := by omega
    simp [h1, h4] at h3
    exact h3
theorem done (c p : Nat) (hp : p ≤ 26) (h : high c p = 0) : catsTo c p = cats c := by
  unfold cats
  obtain ⟨d, hd⟩ : ∃ d, 26 = p + d := ⟨26 - p, by omega⟩
  rw [hd]
  refine (catsTo_skip c p d fun i h1 h2 => ?_).symm
  have h3 := high_bit c p i
  rw [h, Nat.zero_testBit] at h3
  simpa [h1] using h3.symm
theorem high_le (c p : Nat) : high c p ≤ c := Nat.div_mul_le_self c (2 ^ p)
/-- The categories that letters name; a byte that is no letter: nothing. -/
def setCats : List UInt8 → Nat → Option Nat
  | [], c => some c
  | b :: r, c => if 97 ≤ b.toNat ∧ b.toNat ≤ 122 then setCats r (c ||| 2 ^ (b.toNat - 97)) else none
theorem or_lt (c k : Nat) (hc : c < 67108864) (hk : k < 26) : c ||| 2 ^ k < 67108864 := by
  have e : (2 : Nat) ^ 26 = 67108864 := by decide +kernel
  have h := Nat.or_lt_two_pow (x := c) (y := 2 ^ k) (n := 26) (by omega) (Nat.pow_lt_pow_right (by decide) hk)
  omega
end Go.Proofs.YtgcaalgaellciaaGreatDoor.LabL
