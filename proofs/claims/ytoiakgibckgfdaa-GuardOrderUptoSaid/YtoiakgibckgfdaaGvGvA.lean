/- A value as it is let down, plain. -/
import Derived.Test.YtoiakgibckgfdaaXGvx4
import Derived.Test.YtoiakgibckgfdaaGvGvV
import Derived.Lib.Repeat
namespace Go.Proofs.Ytoiakgibckgfdaa.Pure
open Go.RowKit Go.Proofs.Ytoiakgibckgfdaa.XGv Go.Proofs.YtoiakgibckgfdaaW.PrintWords Go.Proofs.YtoiakgibckgfdaaW.PrintLast Go.Proofs.YtoiakgibckgfdaaW.PrintMore
set_option linter.unusedVariables false
set_option linter.unusedSimpArgs false
namespace GbV
abbrev S := S47
/-- A value's parts, and an error. -/
def tup (x : S) (e : Option Int) : Int × Int × ByteArray × Bool × Option Int := (x.f0, x.f1, x.f2, x.f3, e)
def null : S := ⟨0, 0, ⟨#[]⟩, false⟩
/-- May the action be? -/
def chkA (act arg : Int) : Option Int := if act = 1 then (if 0 ≤ arg ∧ arg ≤ 0 then none else some 4) else if act = 2 then (if 0 ≤ arg ∧ arg ≤ 4096 then none else some 4) else if act = 3 then (if 1 ≤ arg ∧ arg ≤ 1099511627776 then none else some 4) else some 50
theorem check_f (s : ByteArray) (act arg : Int) : guard_Column_check.f s act arg = some (chkA act arg) := by
  unfold guard_Column_check.f guard_in.f chkA
  repeat' split
  all_goals first
    | rfl
    | (exfalso; omega)
    | (simp only [Option.bind_some]; repeat' split)
  all_goals first
    | rfl
    | (exfalso; simp only [decide_eq_true_eq, decide_eq_false_iff_not, Bool.false_eq_true] at *; omega)
def maskB (s : ByteArray) (n : Nat) : ByteArray := s.extract 0 n ++ ⟨(Lib.repeatL [42] (s.size - n)).toArray⟩
theorem mn_nat (arg : Int) (h : 0 ≤ arg) (n : Nat) : mn arg (n : Int) = ((min arg.toNat n : Nat) : Int) := by
  unfold mn
  split <;> omega
theorem masked_f (x : S) (arg : Int) (h0 : 0 ≤ arg) (hs : x.f2.size ≤ 4096) : guard_masked.f x.f0 x.f1 x.f2 x.f3 arg = some (if x.f0 = 2 then ((2 : Int), (0 : Int), maskB x.f2 (min arg.toNat x.f2.size), false) else (0, 0, ⟨#[]⟩, false)) := by
  unfold guard_masked.f
  by_cases h : x.f0 = 2
  · rw [if_pos h, if_pos h, mn_nat arg h0]
    have hm : min arg.toNat x.f2.size ≤ x.f2.size := Nat.min_le_right _ _
    generalize min arg.toNat x.f2.size = n at hm
    have hsz : (⟨(Lib.repeatL [42] (x.f2.size - n)).toArray⟩ : ByteArray).size = x.f2.size - n := by
      show (Lib.repeatL [42] (x.f2.size - n)).toArray.size = _
      rw [List.size_toArray, Lib.repeatL_length]
      simp
    rw [if_pos (by omega), if_pos (by omega), w64 _ (by omega) (by omega), show (x.f2.size : Int) - (n : Int) = ((x.f2.size - n : Nat) : Int) by omega]
    have hr : strings_Repeat.f (⟨#[42]⟩ : ByteArray) ((x.f2.size - n : Nat) : Int) = some ⟨(Lib.repeatL [42] (x.f2.size - n)).toArray⟩ := by
      unfold strings_Repeat.f
      rw [if_pos ⟨by omega, by omega, by rw [Int.toNat_natCast, show (⟨#[42]⟩ : ByteArray).size = 1 from rfl]; omega⟩, Int.toNat_natCast]
    rw [hr, Option.bind_some, if_pos (by rw [hsz, ByteArray.size_extract, Int.toNat_natCast]; omega), Int.toNat_natCast]
    rfl
  · rw [if_neg h, if_neg h]
    rfl
/-! #### coarse -/
theorem rest_eq (a n : Int) (hn : 1 ≤ n) : (if Int.tmod a n < 0 then Int.tmod a n + n else Int.tmod a n) = a % n := by
  have h1 := Int.emod_nonneg a (show n ≠ 0 by omega)
  have h2 := Int.emod_lt_of_pos a (show 0 < n by omega)
  have h3 := Int.tmod_eq_emod (a := a) (b := n)
  split at h3
  · rw [h3, if_neg (by omega)]; omega
  · have : (n.natAbs : Int) = n := by omega
    rw [h3, this, if_pos (by omega)]; omega
theorem number_f (a r : Int) (ha : -9223372036854775808 ≤ a ∧ a ≤ 9223372036854775807) (h0 : 0 ≤ r) (h1 : r < 9223372036854775807) :
    value_number.f 45 a r = some (if -9223372036854775808 ≤ a - r then (a - r, none) else (0, some 5)) := by
  unfold value_number.f
  rw [if_pos rfl, if_neg (by omega), w64 (-r) (by omega) (by omega)]
  by_cases h : -9223372036854775808 ≤ a - r
  · rw [w64 (a + -r) (by omega) (by omega), if_neg, if_pos h]
    · rfl
    · have e1 : decide (a + -r > a) = false := decide_eq_false (by omega)
      have e2 : decide (-r > 0) = false := decide_eq_false (by omega)
      rw [e1, e2]
      decide
  · have hw : wrap64 (a + -r) = a + -r + 18446744073709551616 := by
      simp [wrap64, IntKind.wrap]
      omega
    rw [hw, if_pos, if_neg h]
    have e1 : decide (a + -r + 18446744073709551616 > a) = true := decide_eq_true (by omega)
    have e2 : decide (-r > 0) = false := decide_eq_false (by omega)
    rw [e1, e2]
    decide
theorem w1 : wrap64 1 = 1 := w64 1 (by decide) (by decide)
theorem w2 : wrap64 2 = 2 := w64 2 (by decide) (by decide)
theorem w01 : wrap64 (0 + 1) = 1 := w64 1 (by decide) (by decide)
theorem w11 : wrap64 (1 + 1) = 2 := w64 2 (by decide) (by decide)
theorem reckon_f (k : Nat) (hk : 10 ≤ k) (a r : Int) (s t : ByteArray) (u v : Bool) : value_Reckon.f k 45 1 a s u 1 r t v = (value_number.f 45 a r).bind fun q => if q.2.isNone = true then some (1, q.1, (⟨#[]⟩ : ByteArray), false, none) else some (0, 0, (⟨#[]⟩ : ByteArray), false, some (q.2.getD 0)) := by
  obtain ⟨k, rfl⟩ : ∃ q, k = q + 10 := ⟨k - 10, by omega⟩
  unfold value_Reckon.f
  have e1 : strings_IndexByte.f (⟨#[43, 45, 42, 47, 37]⟩ : ByteArray) 45 = some 1 := by decide +kernel
  have e2 : value_is.f (k + 10) 1 [(⟨1, a, s, u⟩ : S), (⟨1, r, t, v⟩ : S)] = some true := by
    simp [value_is.f, value_is.l0, rd_T47, w1, w2, w01, w11]
  have e3 : value_null.f (k + 10) [(⟨1, a, s, u⟩ : S), (⟨1, r, t, v⟩ : S)] = some false := by
    simp [value_null.f, value_null.l0, rd_T47, w1, w2, w01, w11]
  rw [e1, Option.bind_some, if_neg (by decide), e2, Option.bind_some, if_pos rfl, e3, Option.bind_some, if_neg (by decide)]
  rfl
theorem coarse_int (k : Nat) (hk : 10 ≤ k) (a n : Int) (ha : -9223372036854775808 ≤ a ∧ a ≤ 9223372036854775807) (h1 : 1 ≤ n) (h2 : n ≤ 1099511627776) (s : ByteArray) (t : Bool) :
    guard_coarse.f k 1 a s t n = some (if -9223372036854775808 ≤ a - a % n then (1, a - a % n, (⟨#[]⟩ : ByteArray), false, none) else (0, 0, (⟨#[]⟩ : ByteArray), false, some 5)) := by
  have h3 := Int.emod_nonneg a (show n ≠ 0 by omega)
  have h4 := Int.emod_lt_of_pos a (show 0 < n by omega)
  have hr := rest_eq a n h1
  have hnum := number_f a (a % n) ha h3 (by omega)
  have hrk : (value_Reckon.f k 45 1 a s t 1 (a % n) (⟨#[]⟩ : ByteArray) false) = some (if -9223372036854775808 ≤ a - a % n then (1, a - a % n, (⟨#[]⟩ : ByteArray), false, none) else (0, 0, (⟨#[]⟩ : ByteArray), false, some 5)) := by
    rw [reckon_f k hk, hnum, Option.bind_some]
    by_cases h : -9223372036854775808 ≤ a - a % n
    · rw [if_pos h, if_pos h]; rfl
    · rw [if_neg h, if_neg h]; rfl
  unfold guard_coarse.f value_Int.f
  rw [if_pos rfl, if_neg (by omega)]
  by_cases hc : Int.tmod a n < 0
  · rw [if_pos hc] at hr
    rw [if_pos hc, w64 _ (by omega) (by omega), hr, Option.bind_some]
    dsimp only
    rw [hrk]
    split <;> rfl
  · rw [if_neg hc] at hr
    rw [if_neg hc, hr, Option.bind_some]
    dsimp only
    rw [hrk]
    split <;> rfl
/-- A value as it is let down. -/
def apS (act arg : Int) (x : S) : S :=
  if act = 2 then (if x.f0 = 2 then ⟨2, 0, maskB x.f2 (min arg.toNat x.f2.size), false⟩ else null)
  else if act = 3 then (if x.f0 = 1 then ⟨1, x.f1 - x.f1 % arg, ⟨#[]⟩, false⟩ else if x.f0 = 2 then ⟨2, 0, x.f2.extract 0 (min arg.toNat x.f2.size), false⟩ else null)
  else x
/-- Does a number go below the least one? -/
def low (act arg : Int) (x : S) : Prop := act = 3 ∧ x.f0 = 1 ∧ x.f1 - x.f1 % arg < -9223372036854775808
instance (act arg : Int) (x : S) : Decidable (low act arg x) := by unfold low; infer_instance
theorem apply_f (k : Nat) (hk : 20 ≤ k) (nm : ByteArray) (act arg : Int) (x : S) (hx : -9223372036854775808 ≤ x.f1 ∧ x.f1 ≤ 9223372036854775807) :
    guard_Apply.f k nm act arg x.f0 x.f1 x.f2 x.f3 = some (if valid x = none then (if chkA act arg = none then (if low act arg x then tup null (some 5) else tup (apS act arg x) none) else tup null (some ((chkA act arg).getD 0))) else tup null (some ((valid x).getD 0))) := by
  unfold guard_Apply.f value_Null.f
  rw [valid_f k (by omega), Option.bind_some]
  by_cases hv : valid x = none
  · rw [hv, if_pos (show (none : Option Int).isNone = true from rfl), if_pos rfl, check_f, Option.bind_some]
    have hok := (valid_ok x).1 hv
    by_cases hc : chkA act arg = none
    · rw [hc, if_pos (show (none : Option Int).isNone = true from rfl), if_pos rfl]
      by_cases h2 : act = 2
      · subst h2
        have harg : 0 ≤ arg ∧ arg ≤ 4096 := by unfold chkA at hc; simp at hc; omega
        have hl : ¬ low 2 arg x := fun z => by have := z.1; omega
        rw [if_pos rfl, masked_f x arg harg.1 hok.2.1, Option.bind_some, if_neg hl]
        unfold apS
        rw [if_pos rfl]
        by_cases h : x.f0 = 2
        · rw [if_pos h, if_pos h]; rfl
        · rw [if_neg h, if_neg h]; rfl
      · rw [if_neg h2]
        by_cases h3 : act = 3
        · subst h3
          have harg : 1 ≤ arg ∧ arg ≤ 1099511627776 := by unfold chkA at hc; simp at hc; omega
          rw [if_pos rfl]
          by_cases h : x.f0 = 1
          · have hco : guard_coarse.f k x.f0 x.f1 x.f2 x.f3 arg = some (if -9223372036854775808 ≤ x.f1 - x.f1 % arg then (1, x.f1 - x.f1 % arg, (⟨#[]⟩ : ByteArray), false, none) else (0, 0, (⟨#[]⟩ : ByteArray), false, some 5)) := by
              rw [h]
              exact coarse_int k (by omega) x.f1 arg hx harg.1 harg.2 x.f2 x.f3
            have ha : apS 3 arg x = ⟨1, x.f1 - x.f1 % arg, ⟨#[]⟩, false⟩ := by
              unfold apS
              rw [if_neg h2, if_pos rfl, if_pos h]
            rw [hco, Option.bind_some]
            by_cases hl : -9223372036854775808 ≤ x.f1 - x.f1 % arg
            · have hl' : ¬ low 3 arg x := fun z => by have := z.2.2; omega
              rw [if_pos hl, if_neg hl', ha]; rfl
            · have hl' : low 3 arg x := ⟨rfl, h, by omega⟩
              rw [if_neg hl, if_pos hl']; rfl
          · have hl' : ¬ low 3 arg x := fun z => h z.2.1
            rw [if_neg hl']
            unfold guard_coarse.f apS
            rw [if_neg h, if_neg h2, if_pos rfl, if_neg h]
            by_cases h4 : x.f0 = 2
            · rw [if_pos h4, if_pos h4, mn_nat arg (by omega), if_pos (by omega), if_pos (by omega), Int.toNat_natCast]
              rfl
            · rw [if_neg h4, if_neg h4]
              rfl
        · have hl : ¬ low act arg x := fun z => h3 z.1
          rw [if_neg h3, if_neg hl]
          unfold apS
          rw [if_neg h2, if_neg h3]
          rfl
    · have hc' : ¬ (chkA act arg).isNone = true := fun z => hc (Option.isNone_iff_eq_none.1 z)
      rw [if_neg hc', if_neg hc]
      rfl
  · have hv' : ¬ (valid x).isNone = true := fun z => hv (Option.isNone_iff_eq_none.1 z)
    rw [if_neg hv', if_neg hv]
    rfl
end GbV
end Go.Proofs.Ytoiakgibckgfdaa.Pure
