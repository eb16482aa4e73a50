/- Values as texts: which may be, and their bytes. -/
import Derived.Test.YtcchjnadhjeniaaXAllx6
import Derived.Test.YtcchjnadhjeniaaValueL
import Derived.Lib.Strings
import Derived.Laws.BytesArg
import Derived.Laws.RangeString
import Derived.Laws.BitsAllLaws
namespace Go.Proofs.Ytcchjnadhjeniaa.Pure
open Go.RowKit Go.Proofs.Ytcchjnadhjeniaa.XAll Go.Proofs.YtcchjnadhjeniaaW.PrintWords Go.Proofs.YtcchjnadhjeniaaW.PrintLast Go.Proofs.YtcchjnadhjeniaaW.PrintMore
set_option linter.unusedVariables false
set_option linter.unusedSimpArgs false
open ValueL
namespace EncL
theorem w64 (n : Int) (h0 : -9223372036854775808 ≤ n) (h1 : n ≤ 9223372036854775807) : wrap64 n = n := by
  simp [wrap64, IntKind.wrap]
  omega
/-- The fields that a kind leaves unused are nought. -/
def shape (x : S36) : Bool :=
  (x.f0 == 0 && x.f1 == 0 && x.f2.toList == [] && !x.f3) || (x.f0 == 1 && x.f2.toList == [] && !x.f3) || (x.f0 == 2 && x.f1 == 0 && !x.f3) || (x.f0 == 3 && x.f1 == 0 && x.f2.toList == [])
def tailv (s : ByteArray) : Option Int := if 4096 < s.size then some 2 else if 0 ≤ Lib.idxFunc notPrinted true s then some 3 else none
def valid (x : S36) : Option Int := if shape x = true then tailv x.f2 else some 3
theorem j1_f (k : Nat) (b : Bool) (a0 a1 : Int) (s : ByteArray) (a3 : Bool) : value_Valid.j1 (k + 1) b a0 a1 s a3 = some (if b = true then some 3 else tailv s) := by
  simp only [value_Valid.j1, strings_IndexFunc.f, tailv]
  cases b with
  | true => rfl
  | false =>
    rw [if_neg (show ¬ (false = true) by decide), if_neg (show ¬ (false = true) by decide)]
    by_cases h : 4096 < s.size
    · rw [if_pos (by omega), if_pos h]
    · rw [if_neg (by omega), if_neg h, if_pos trivial, Option.bind_some]
      by_cases h2 : 0 ≤ Lib.idxFunc notPrinted true s
      · rw [if_pos (by omega), if_pos h2]
      · rw [if_neg (by omega), if_neg h2]
theorem valid_f (k : Nat) (hk : 3 ≤ k) (x : S36) : value_Valid.f k x.f0 x.f1 x.f2 x.f3 = some (valid x) := by
  obtain ⟨k, rfl⟩ : ∃ q, k = q + 3 := ⟨k - 3, by omega⟩
  obtain ⟨a, b, s, t⟩ := x
  unfold value_Valid.f valid shape
  dsimp only
  have e1 : ([78, 85, 76, 76] : List UInt8) ≠ [] := by simp
  by_cases h1 : a = 1
  · subst h1
    rw [if_pos rfl]
    simp only [value_Valid.j0, value_Kind.f, Lib.toList_data]
    simp only [Int.one_ne_zero, if_false, if_true, Option.bind_some, List.cons_ne_nil, j1_f, reduceCtorEq]
    cases hs : (s.data.toList == []) <;> cases t <;> simp [hs]
  · rw [if_neg h1]
    by_cases h2 : a = 2
    · subst h2
      rw [if_pos rfl]
      simp only [value_Valid.j0, value_Kind.f, Lib.toList_data]
      cases hb : (b == 0) <;> cases t <;> simp [hb, j1_f]
    · rw [if_neg h2]
      by_cases h3 : a = 3
      · subst h3
        rw [if_pos rfl]
        simp only [value_Valid.j0, value_Kind.f, Lib.toList_data]
        cases hb : (b == 0) <;> cases hs : (s.data.toList == []) <;> simp [hb, hs, j1_f]
      · rw [if_neg h3]
        simp only [value_Valid.j0, value_Kind.f, Lib.toList_data]
        by_cases h0 : a = 0
        · subst h0
          cases hb : (b == 0) <;> cases hs : (s.data.toList == []) <;> cases t <;> simp [hb, hs, j1_f]
        · have g0 : (a == 0) = false := beq_eq_false_iff_ne.mpr h0
          have g1 : (a == 1) = false := beq_eq_false_iff_ne.mpr h1
          have g2 : (a == 2) = false := beq_eq_false_iff_ne.mpr h2
          have g3 : (a == 3) = false := beq_eq_false_iff_ne.mpr h3
          simp [h0, h1, h2, h3, g0, g1, g2, g3, j1_f]
/-- A text as numbers, and back. -/
def Byt (l : List Int) : Prop := ∀ x ∈ l, 0 ≤ x ∧ x < 256
theorem son_bytesOf (s : ByteArray) : strOfNums (bytesOf s) = s := by
  apply ByteArray.ext
  apply Array.toList_inj.1
  rw [strOfNums_data]
  unfold bytesOf
  rw [List.map_map]
  conv => rhs; rw [← List.map_id s.data.toList]
  apply List.map_congr_left
  intro b _
  simp
theorem bytesOf_byt (s : ByteArray) : Byt (bytesOf s) := by
  intro x hx
  unfold bytesOf at hx
  obtain ⟨b, _, rfl⟩ := List.mem_map.1 hx
  have := b.toNat_lt
  omega
theorem son_toList (l : List Int) : (strOfNums l).toList = l.map fun n => UInt8.ofNat n.toNat := by rw [Lib.toList_data, strOfNums_data]
theorem son_size (l : List Int) : (strOfNums l).size = l.length := by
  have h := congrArg List.length (strOfNums_data l)
  rw [List.length_map] at h
  simpa using h
theorem son_extract (l : List Int) (a b : Nat) : (strOfNums l).extract a b = strOfNums ((l.drop a).take (b - a)) := by
  apply ByteArray.ext
  apply Array.toList_inj.1
  rw [Lib.extract_data, strOfNums_data, strOfNums_data, List.map_take, List.map_drop]
theorem son_bt (l : List Int) (hl : Byt l) (i : Nat) (h : i < l.length) : bt (strOfNums l) (i : Int) = l[i] := by
  have hs : i < (strOfNums l).size := by rw [son_size]; exact h
  unfold bt
  rw [dif_pos (by rw [Int.toNat_natCast]; exact hs)]
  have hb := hl l[i] (List.getElem_mem h)
  have e : (strOfNums l)[(i : Int).toNat]'(by rw [Int.toNat_natCast]; exact hs) = (strOfNums l).data.toList[i]'(by rw [strOfNums_data, List.length_map]; exact h) := by
    simp only [Int.toNat_natCast, Array.getElem_toList]
    rfl
  rw [e]
  have e2 : (strOfNums l).data.toList[i]'(by rw [strOfNums_data, List.length_map]; exact h) = UInt8.ofNat (l[i]).toNat := by
    simp only [strOfNums_data, List.getElem_map]
  rw [e2, UInt8.toNat_ofNat']
  omega
/-- Numbers in order, byte by byte. -/
def iless : List Int → List Int → Bool
  | _, [] => false
  | [], _ :: _ => true
  | a :: x, b :: y => decide (a < b) || (a == b && iless x y)
theorem less_son : ∀ l m : List Int, Byt l → Byt m → Op.bytesLess (l.map fun n => UInt8.ofNat n.toNat) (m.map fun n => UInt8.ofNat n.toNat) = iless l m
  | [], [] => fun _ _ => by simp [Op.bytesLess, iless]
  | [], _ :: _ => fun _ _ => by simp [Op.bytesLess, iless]
  | _ :: _, [] => fun _ _ => by simp [Op.bytesLess, iless]
  | a :: l, b :: m => fun hl hm => by
    have ih := less_son l m (fun x hx => hl x (by simp [hx])) (fun x hx => hm x (by simp [hx]))
    have ha := hl a (by simp)
    have hb := hm b (by simp)
    simp only [List.map_cons, Op.bytesLess, iless, ih]
    have h1 : (UInt8.ofNat a.toNat).toNat = a.toNat := by rw [UInt8.toNat_ofNat']; omega
    have h2 : (UInt8.ofNat b.toNat).toNat = b.toNat := by rw [UInt8.toNat_ofNat']; omega
    have h3 : decide (UInt8.ofNat a.toNat < UInt8.ofNat b.toNat) = decide (a < b) := by
      rw [decide_eq_decide]
      show (UInt8.ofNat a.toNat).toNat < (UInt8.ofNat b.toNat).toNat ↔ _
      rw [h1, h2]
      omega
    have h4 : (UInt8.ofNat a.toNat == UInt8.ofNat b.toNat) = (a == b) := by
      rw [Bool.eq_iff_iff, beq_iff_eq, beq_iff_eq, ← UInt8.toNat_inj, h1, h2]
      omega
    rw [h3, h4]
/-- A number's bytes, the highest first. -/
def beN : Nat → Nat → List Int
  | 0, _ => []
  | d + 1, n => ((n / 256 ^ d % 256 : Nat) : Int) :: beN d n
theorem beN_len : ∀ d n, (beN d n).length = d
  | 0, _ => rfl
  | d + 1, n => by simp [beN, beN_len d n]
theorem beN_byt : ∀ d n, Byt (beN d n)
  | 0, _ => fun x hx => by simp [beN] at hx
  | d + 1, n => fun x hx => by
    rcases List.mem_cons.1 hx with rfl | h
    · omega
    · exact beN_byt d n x h
theorem be_less (p q : List Int) : ∀ d n m, iless (beN d n ++ p) (beN d m ++ q) = if n % 256 ^ d = m % 256 ^ d then iless p q else decide (n % 256 ^ d < m % 256 ^ d)
  | 0, n, m => by simp [beN, Nat.mod_one]
  | d + 1, n, m => by
    simp only [beN, List.cons_append, iless]
    rw [be_less p q d n m, Nat.pow_succ, Nat.mod_mul, Nat.mod_mul]
    obtain ⟨P, hP⟩ : ∃ P, P = 256 ^ d := ⟨_, rfl⟩
    have hpos : 0 < P := by rw [hP]; exact Nat.pow_pos (by omega)
    rw [← hP]
    obtain ⟨a, ha⟩ : ∃ a, a = n / P % 256 := ⟨_, rfl⟩
    obtain ⟨b, hb⟩ : ∃ b, b = m / P % 256 := ⟨_, rfl⟩
    obtain ⟨r, hr⟩ : ∃ r, r = n % P := ⟨_, rfl⟩
    obtain ⟨t, ht⟩ : ∃ t, t = m % P := ⟨_, rfl⟩
    have hr1 : r < P := by rw [hr]; exact Nat.mod_lt _ hpos
    have ht1 : t < P := by rw [ht]; exact Nat.mod_lt _ hpos
    rw [← ha, ← hb, ← hr, ← ht]
    rcases Nat.lt_trichotomy a b with h | h | h
    · have h2 : P * a + P ≤ P * b := by rw [← Nat.mul_succ]; exact Nat.mul_le_mul_left P h
      rw [show decide ((a : Int) < (b : Int)) = true from decide_eq_true (by omega), Bool.true_or, if_neg (by omega)]
      exact (decide_eq_true (by omega)).symm
    · subst h
      rw [show decide ((a : Int) < (a : Int)) = false from decide_eq_false (by omega), Bool.false_or, show ((a : Int) == (a : Int)) = true from beq_iff_eq.mpr rfl, Bool.true_and]
      by_cases h2 : r = t
      · rw [if_pos h2, if_pos (by omega)]
      · rw [if_neg h2, if_neg (by omega), decide_eq_decide]
        omega
    · have h2 : P * b + P ≤ P * a := by rw [← Nat.mul_succ]; exact Nat.mul_le_mul_left P h
      rw [show decide ((a : Int) < (b : Int)) = false from decide_eq_false (by omega), Bool.false_or, show ((a : Int) == (b : Int)) = false from beq_eq_false_iff_ne.mpr (by omega), Bool.false_and, if_neg (by omega)]
      exact (decide_eq_false (by omega)).symm
theorem word_l0 (n : Nat) : ∀ (d k : Nat) (l : List Int), d ≤ 8 → d < k → l.length + d ≤ 140737488355300 → order_word.l0 k l (n : Int) (8 * (d : Int) - 8) = some (l ++ beN d n)
  | 0, k, l, h8, hk, hl => by
    obtain ⟨k, rfl⟩ : ∃ q, k = q + 1 := ⟨k - 1, by omega⟩
    simp only [order_word.l0]
    rw [if_neg (by omega)]
    simp [beN]
  | d + 1, k, l, h8, hk, hl => by
    obtain ⟨k, rfl⟩ : ∃ q, k = q + 1 := ⟨k - 1, by omega⟩
    simp only [order_word.l0]
    have e0 : (8 * ((d + 1 : Nat) : Int) - 8) = ((8 * d : Nat) : Int) := by omega
    have e1 : IntKind.u64.wrap ((8 * d : Nat) : Int) = ((8 * d : Nat) : Int) := by simp [IntKind.wrap, IntKind.signed, IntKind.bits]; omega
    have e2 : wrap64 (((8 * d : Nat) : Int) - 8) = 8 * (d : Int) - 8 := by rw [w64 _ (by omega) (by omega)]; omega
    rw [e0, e1, e2, if_pos (by omega), if_pos (by omega), if_pos (by omega)]
    have e3 : shr .u64 (n : Int) ((8 * d : Nat) : Int) % 256 = ((n / 256 ^ d % 256 : Nat) : Int) := by
      unfold shr
      have hp : ((2 ^ (8 * d) : Nat) : Int) = ((256 ^ d : Nat) : Int) := by rw [Nat.pow_mul]
      have hp2 : (2 : Int) ^ (8 * d) = ((2 ^ (8 * d) : Nat) : Int) := by simp
      rw [Int.toNat_natCast, Nat.min_eq_left (by show 8 * d ≤ 64; omega), hp2, hp]
      simp
    rw [e3, word_l0 n d k _ (by omega) (by omega) (by simp; omega)]
    simp [beN]
theorem word_f (n k : Nat) (l : List Int) (hk : 9 ≤ k) (hl : l.length ≤ 140737488355000) : order_word.f k l (n : Int) = some (l ++ beN 8 n) := by
  unfold order_word.f
  have h := word_l0 n 8 k l (by omega) (by omega) (by omega)
  simpa using h
end EncL
end Go.Proofs.Ytcchjnadhjeniaa.Pure
