/- Numbers of 32 bits, bit by bit. -/
import Derived.Laws.BitsAllLaws
namespace Go.Proofs.YtgcaalgaellciaaGreatDoor.LabB
set_option linter.unusedVariables false
set_option linter.unusedSimpArgs false
theorem not_bit (b : Nat) (hb : b < 4294967296) (i : Nat) : (4294967295 - b).testBit i = (decide (i < 32) && !b.testBit i) := by
  have e : (2 : Nat) ^ 32 = 4294967296 := by decide +kernel
  have h := Nat.testBit_two_pow_sub_succ (x := b) (n := 32) (by omega) i
  rw [show 2 ^ 32 - (b + 1) = 4294967295 - b by omega] at h
  exact h
theorem andNot_bit (a b : Nat) (ha : a < 4294967296) (hb : b < 4294967296) (i : Nat) : (a &&& (4294967295 - b)).testBit i = (a.testBit i && !b.testBit i) := by
  rw [Nat.testBit_and, not_bit b hb]
  by_cases hi : i < 32
  · simp [hi]
  · have h : a.testBit i = false := Nat.testBit_lt_two_pow (Nat.lt_of_lt_of_le (show a < 2 ^ 32 by have e : (2 : Nat) ^ 32 = 4294967296 := by decide +kernel
                                                                                                   omega) (Nat.pow_le_pow_right (by decide) (by omega)))
    simp [h]
theorem low_bit (i : Nat) : (67108863 : Nat).testBit i = decide (i < 26) := by
  have h := Nat.testBit_two_pow_sub_one 26 i
  rw [show (2 : Nat) ^ 26 - 1 = 67108863 by decide +kernel] at h
  exact h
/-- No bit above the 26 lower ones. -/
theorem andNot_zero (b : Nat) (hb : b < 4294967296) : Go.bits .andNot .u32 (b : Int) 67108863 = 0 ↔ b < 67108864 := by
  have e : Go.bits .andNot .u32 (b : Int) 67108863 = ((b &&& (4294967295 - 67108863) : Nat) : Int) := u32_andNot_nat b 67108863 hb (by decide)
  have e26 : (2 : Nat) ^ 26 = 67108864 := by decide +kernel
  rw [e]
  constructor
  · intro h
    have h0 : b &&& (4294967295 - 67108863) = 0 := by omega
    rcases Nat.lt_or_ge b 67108864 with h1 | h1
    · exact h1
    · exfalso
      obtain ⟨i, hi, hbit⟩ := Nat.exists_ge_and_testBit_of_ge_two_pow (x := b) (n := 26) (by omega)
      have h2 := andNot_bit b 67108863 hb (by decide) i
      rw [h0, low_bit, hbit] at h2
      have h3 : ¬ i < 26 := by omega
      simp [h3] at h2
  · intro h
    have h0 : b &&& (4294967295 - 67108863) = 0 := by
      apply Nat.eq_of_testBit_eq
      intro i
      rw [andNot_bit b 67108863 hb (by decide) i, low_bit, Nat.zero_testBit]
      by_cases hi : i < 26
      · simp [hi]
      · rw [Nat.testBit_lt_two_pow (Nat.lt_of_lt_of_le (show b < 2 ^ 26 by omega) (Nat.pow_le_pow_right (by decide) (by omega)))]
        rfl
    rw [h0]
    rfl
theorem pred_and (x : Nat) (h0 : x ≠ 0) (hx : x < 4294967296) : Go.IntKind.u32.wrap ((x : Int) - 1) = ((x - 1 : Nat) : Int) ∧ Go.bits .and .u32 (x : Int) ((x - 1 : Nat) : Int) = ((x &&& (x - 1) : Nat) : Int) := by
  refine ⟨?_, u32_and_nat x (x - 1) hx (by omega)⟩
  rw [IntKind.wrap_u32']
  omega
end Go.Proofs.YtgcaalgaellciaaGreatDoor.LabB
