/- Values compared: the program's way, the document's, lists of them. -/
import Derived.Test.YtcchjnadhjeniaaXAllx15
import Derived.Test.YtcchjnadhjeniaaXAllx13
import Derived.Test.YtcchjnadhjeniaaSure06
namespace Go.Proofs.Ytcchjnadhjeniaa.Pure
open Go.RowKit Go.Proofs.Ytcchjnadhjeniaa.XAll Go.Proofs.YtcchjnadhjeniaaW.PrintWords Go.Proofs.YtcchjnadhjeniaaW.PrintLast Go.Proofs.YtcchjnadhjeniaaW.PrintMore
set_option linter.unusedVariables false
set_option linter.unusedSimpArgs false
namespace ValueL
/-- What two tests tell: less, greater, the same. -/
def sgn (a b : Bool) : Int := if a = true then -1 else if b = true then 1 else 0
/-- Two values compared. -/
def vcmp (x y : S36) : Int :=
  if x.f0 = y.f0 then
    if x.f0 = 1 then sgn (decide (x.f1 < y.f1)) (decide (y.f1 < x.f1))
    else if x.f0 = 2 then sgn (Op.bytesLess x.f2.toList y.f2.toList) (Op.bytesLess y.f2.toList x.f2.toList)
    else if x.f0 = 3 then sgn (!x.f3 && y.f3) (x.f3 && !y.f3)
    else 0
  else sgn (decide (x.f0 < y.f0)) (decide (y.f0 < x.f0))
theorem cmp_int_f (a b : Int) : cmp_Compare_int.f a b = some (sgn (decide (a < b)) (decide (b < a))) := by
  unfold cmp_Compare_int.f cmp_isNaN_int.f sgn
  by_cases h1 : a < b
  · simp [h1]
  · by_cases h2 : b < a
    · simp [h1, h2]
    · simp [h1, h2]
theorem cmp_str_f (a b : ByteArray) : cmp_Compare_string.f a b = some (sgn (Op.bytesLess a.toList b.toList) (Op.bytesLess b.toList a.toList)) := by
  unfold cmp_Compare_string.f cmp_isNaN_string.f sgn
  cases h1 : Op.bytesLess a.toList b.toList <;> cases h2 : Op.bytesLess b.toList a.toList <;> simp [h1, h2]
theorem value_f (x y : S36) : value_Compare.f x.f0 x.f1 x.f2 x.f3 y.f0 y.f1 y.f2 y.f3 = some (vcmp x y) := by
  unfold value_Compare.f vcmp
  rw [cmp_int_f, Option.bind_some]
  by_cases h : x.f0 = y.f0
  · rw [if_pos h, if_pos (by rw [h]; simp [sgn]), cmp_int_f, cmp_str_f, Option.bind_some, Option.bind_some]
    by_cases h1 : x.f0 = 1
    · rw [if_pos h1, if_pos h1]
    · rw [if_neg h1, if_neg h1]
      by_cases h2 : x.f0 = 2
      · rw [if_pos h2, if_pos h2]
      · rw [if_neg h2, if_neg h2]
        by_cases h3 : x.f0 = 3
        · rw [if_pos h3, if_pos h3]
          cases x.f3 <;> cases y.f3 <;> simp [sgn]
        · rw [if_neg h3, if_neg h3]
  · rw [if_neg h, if_neg]
    unfold sgn
    by_cases h1 : x.f0 < y.f0
    · simp [h1]
    · have h2 : y.f0 < x.f0 := by omega
      simp [h1, h2]
theorem ref_value_f (k : Nat) (hk : 1 ≤ k) (x y : S36) : barbicanref05_Compare.f k x.f0 x.f1 x.f2 x.f3 y.f0 y.f1 y.f2 y.f3 = some (vcmp x y) := by
  obtain ⟨k, rfl⟩ : ∃ q, k = q + 1 := ⟨k - 1, by omega⟩
  have hj : ∀ a b, barbicanref05_Compare.j0 (k + 1) a b = some (sgn a b) := by
    intro a b
    simp only [barbicanref05_Compare.j0]
    unfold sgn
    cases a <;> cases b <;> rfl
  unfold barbicanref05_Compare.f vcmp
  simp only [hj]
  by_cases h : x.f0 = y.f0
  · rw [if_pos h, if_pos h]
    by_cases h1 : x.f0 = 1
    · rw [if_pos h1, if_pos h1]
    · rw [if_neg h1, if_neg h1]
      by_cases h2 : x.f0 = 2
      · rw [if_pos h2, if_pos h2]
      · rw [if_neg h2, if_neg h2]
        by_cases h3 : x.f0 = 3
        · rw [if_pos h3, if_pos h3]
          cases x.f3 <;> cases y.f3 <;> simp [sgn]
        · rw [if_neg h3, if_neg h3]
          simp [sgn]
  · rw [if_neg h, if_neg h]
/-- Two lists compared. -/
def lcmp : List S36 → List S36 → Int
  | [], [] => 0
  | [], _ :: _ => -1
  | _ :: _, [] => 1
  | x :: l, y :: m => if vcmp x y = 0 then lcmp l m else vcmp x y
theorem rd_at (l : List S36) (i : Nat) (h : i < l.length) : rd_T36 l (i : Int) = l[i] := by
  unfold rd_T36
  rw [Int.toNat_natCast]
  simp [List.getD, h]
theorem lcmp_nil (l m : List S36) (h : l = [] ∨ m = []) : lcmp l m = if l.length < m.length then -1 else if m.length < l.length then 1 else 0 := by
  cases l <;> cases m <;> simp [lcmp] at h ⊢
theorem ref_list (a b : List S36) (ha : a.length < 4611686018427387904) (hb : b.length < 4611686018427387904) : ∀ (d i k : Nat), i + d = a.length → i ≤ b.length → 2 * d + 4 ≤ k → barbicanref06_Compare.l0 k a b (i : Int) = some (lcmp (a.drop i) (b.drop i))
  | 0, i, k, hi, hib, hk => by
    obtain ⟨k, rfl⟩ : ∃ q, k = q + 2 := ⟨k - 2, by omega⟩
    simp only [barbicanref06_Compare.l0]
    rw [if_neg (by omega)]
    simp only [barbicanref06_Compare.j1]
    rw [if_neg (by simp), List.drop_eq_nil_of_le (show a.length ≤ i by omega), lcmp_nil _ _ (.inl rfl), List.length_drop, List.length_nil]
    by_cases h : a.length < b.length
    · rw [if_pos (by omega), if_pos (by omega)]
    · rw [if_neg (by omega), if_neg (by omega), if_neg (by omega), if_neg (by omega)]
  | d + 1, i, k, hi, hib, hk => by
    obtain ⟨k, rfl⟩ : ∃ q, k = q + 3 := ⟨k - 3, by omega⟩
    simp only [barbicanref06_Compare.l0]
    rw [if_pos (by omega)]
    simp only [barbicanref06_Compare.j1]
    have ha' : i < a.length := by omega
    by_cases h : i < b.length
    · rw [if_pos (by simp; omega), if_pos (by omega), if_pos (by omega), if_pos (by omega), rd_at a i ha', rd_at b i h, ref_value_f _ (by omega), Option.bind_some, List.drop_eq_getElem_cons ha', List.drop_eq_getElem_cons h]
      simp only [lcmp]
      by_cases hv : vcmp a[i] b[i] = 0
      · rw [if_pos hv, if_pos hv, show wrap64 ((i : Int) + 1) = ((i + 1 : Nat) : Int) by simp [wrap64, IntKind.wrap]; omega]
        exact ref_list a b ha hb d (i + 1) (k + 1) (by omega) (by omega) (by omega)
      · rw [if_neg hv, if_neg hv]
    · rw [if_neg (by simp; omega), List.drop_eq_nil_of_le (show b.length ≤ i by omega), lcmp_nil _ _ (.inr rfl), List.length_drop, List.length_nil, if_neg (by omega), if_pos (by omega), if_neg (by omega), if_pos (by omega)]
end ValueL
end Go.Proofs.Ytcchjnadhjeniaa.Pure
