/- Values as texts: which may be, their bytes, and that the texts are ordered as the values are. -/
import Derived.Test.YtcchjnadhjeniaaDoorXAllx5
import Derived.Test.YtcchjnadhjeniaaDoorValueB
import Derived.Lib.Strings
import Derived.Laws.BytesArg
import Derived.Laws.RangeString
import Derived.Laws.BitsAllLaws
namespace Go.Proofs.YtcchjnadhjeniaaDoor.Pure
open Go.RowKit Go.Proofs.YtcchjnadhjeniaaDoor.XAll Go.Proofs.YtcchjnadhjeniaaDoorW.PrintWords Go.Proofs.YtcchjnadhjeniaaDoorW.PrintLast Go.Proofs.YtcchjnadhjeniaaDoorW.PrintMore
set_option linter.unusedVariables false
set_option linter.unusedSimpArgs false
open ValueL
namespace EncL
theorem w64 (n : Int) (h0 : -9223372036854775808 ≤ n) (h1 : n ≤ 9223372036854775807) : wrap64 n = n := by
  simp [wrap64, IntKind.wrap]
  omega
/-- The fields that a kind leaves unused are nought. -/
def shape (x : S41) : Bool :=
  (x.f0 == 0 && x.f1 == 0 && x.f2.toList == [] && !x.f3) || (x.f0 == 1 && x.f2.toList == [] && !x.f3) || (x.f0 == 2 && x.f1 == 0 && !x.f3) || (x.f0 == 3 && x.f1 == 0 && x.f2.toList == [])
def tailv (s : ByteArray) : Option Int := if 4096 < s.size then some 2 else if 0 ≤ Lib.idxFunc notPrinted true s then some 3 else none
def valid (x : S41) : Option Int := if shape x = true then tailv x.f2 else some 3
theorem j1_f (k : Nat) (b : Bool) (a0 a1 : Int) (s : ByteArray) (a3 : Bool) : value_Valid.j1 (k + 1) b a0 a1 s a3 = some (if b = true then some 3 else tailv s) := by
  simp only [value_Valid.j1, strings_IndexFunc.f, tailv]
  cases b with
  | true => rfl
  | false =>
    rw [if_neg (show ¬ (false = true) by decide), if_neg (show ¬ (false = true) by decide)]
    by_cases h : 4096 < s.size
    · rw [if_pos (by omega), if_pos h]
    · rw [if_neg (by omega), if_neg h, if_pos trivial, Option.bind_some]
      by_cases h2 : 0 ≤ Lib.idxFunc notPrinted true s
      · rw [if_pos (by omega), if_pos h2]
      · rw [if_neg (by omega), if_neg h2]
theorem valid_f (k : Nat) (hk : 3 ≤ k) (x : S41) : value_Valid.f k x.f0 x.f1 x.f2 x.f3 = some (valid x) := by
  obtain ⟨k, rfl⟩ : ∃ q, k = q + 3 := ⟨k - 3, by omega⟩
  obtain ⟨a, b, s, t⟩ := x
  unfold value_Valid.f valid shape
  dsimp only
  have e1 : ([78, 85, 76, 76] : List UInt8) ≠ [] := by simp
  by_cases h1 : a = 1
  · subst h1
    rw [if_pos rfl]
    simp only [value_Valid.j0, value_Kind.f, Lib.toList_data]
    simp only [Int.one_ne_zero, if_false, if_true, Option.bind_some, List.cons_ne_nil, j1_f, reduceCtorEq]
    cases hs : (s.data.toList == []) <;> cases t <;> simp [hs]
  · rw [if_neg h1]
    by_cases h2 : a = 2
    · subst h2
      rw [if_pos rfl]
      simp only [value_Valid.j0, value_Kind.f, Lib.toList_data]
      cases hb : (b == 0) <;> cases t <;> simp [hb, j1_f]
    · rw [if_neg h2]
      by_cases h3 : a = 3
      · subst h3
        rw [if_pos rfl]
        simp only [value_Valid.j0, value_Kind.f, Lib.toList_data]
        cases hb : (b == 0) <;> cases hs : (s.data.toList == []) <;> simp [hb, hs, j1_f]
      · rw [if_neg h3]
        simp only [value_Valid.j0, value_Kind.f, Lib.toList_data]
        by_cases h0 : a = 0
        · subst h0
          cases hb : (b == 0) <;> cases hs : (s.data.toList == []) <;> cases t <;> simp [hb, hs, j1_f]
        · have g0 : (a == 0) = false := beq_eq_false_iff_ne.mpr h0
          have g1 : (a == 1) = false := beq_eq_false_iff_ne.mpr h1
          have g2 : (a == 2) = false := beq_eq_false_iff_ne.mpr h2
          have g3 : (a == 3) = false := beq_eq_false_iff_ne.mpr h3
          simp [h0, h1, h2, h3, g0, g1, g2, g3, j1_f]
/-- A text as numbers, and back. -/
def Byt (l : List Int) : Prop := ∀ x ∈ l, 0 ≤ x ∧ x < 256
theorem son_bytesOf (s : ByteArray) : strOfNums (bytesOf s) = s := by
  apply ByteArray.ext
  apply Array.toList_inj.1
  rw [strOfNums_data]
  unfold bytesOf
  rw [List.map_map]
  conv => rhs; rw [← List.map_id s.data.toList]
  apply List.map_congr_left
  intro b _
  simp
theorem bytesOf_byt (s : ByteArray) : Byt (bytesOf s) := by
  intro x hx
  unfold bytesOf at hx
  obtain ⟨b, _, rfl⟩ := List.mem_map.1 hx
  have := b.toNat_lt
  omega
theorem son_toList (l : List Int) : (strOfNums l).toList = l.map fun n => UInt8.ofNat n.toNat := by rw [Lib.toList_data, strOfNums_data]
theorem son_size (l : List Int) : (strOfNums l).size = l.length := by
  have h := congrArg List.length (strOfNums_data l)
  rw [List.length_map] at h
  simpa using h
theorem son_extract (l : List Int) (a b : Nat) : (strOfNums l).extract a b = strOfNums ((l.drop a).take (b - a)) := by
  apply ByteArray.ext
  apply Array.toList_inj.1
  rw [Lib.extract_data, strOfNums_data, strOfNums_data, List.map_take, List.map_drop]
theorem son_bt (l : List Int) (hl : Byt l) (i : Nat) (h : i < l.length) : bt (strOfNums l) (i : Int) = l[i] := by
  have hs : i < (strOfNums l).size := by rw [son_size]; exact h
  unfold bt
  rw [dif_pos (by rw [Int.toNat_natCast]; exact hs)]
  have hb := hl l[i] (List.getElem_mem h)
  have e : (strOfNums l)[(i : Int).toNat]'(by rw [Int.toNat_natCast]; exact hs) = (strOfNums l).data.toList[i]'(by rw [strOfNums_data, List.length_map]; exact h) := by
    simp only [Int.toNat_natCast, Array.getElem_toList]
    rfl
  rw [e]
  have e2 : (strOfNums l).data.toList[i]'(by rw [strOfNums_data, List.length_map]; exact h) = UInt8.ofNat (l[i]).toNat := by
    simp only [strOfNums_data, List.getElem_map]
  rw [e2, UInt8.toNat_ofNat']
  omega
/-- Numbers in order, byte by byte. -/
def iless : List Int → List Int → Bool
  | _, [] => false
  | [], _ :: _ => true
  | a :: x, b :: y => decide (a < b) || (a == b && iless x y)
theorem less_son : ∀ l m : List Int, Byt l → Byt m → Op.bytesLess (l.map fun n => UInt8.ofNat n.toNat) (m.map fun n => UInt8.ofNat n.toNat) = iless l m
  | [], [] => fun _ _ => by simp [Op.bytesLess, iless]
  | [], _ :: _ => fun _ _ => by simp [Op.bytesLess, iless]
  | _ :: _, [] => fun _ _ => by simp [Op.bytesLess, iless]
  | a :: l, b :: m => fun hl hm => by
    have ih := less_son l m (fun x hx => hl x (by simp [hx])) (fun x hx => hm x (by simp [hx]))
    have ha := hl a (by simp)
    have hb := hm b (by simp)
    simp only [List.map_cons, Op.bytesLess, iless, ih]
    have h1 : (UInt8.ofNat a.toNat).toNat = a.toNat := by rw [UInt8.toNat_ofNat']; omega
    have h2 : (UInt8.ofNat b.toNat).toNat = b.toNat := by rw [UInt8.toNat_ofNat']; omega
    have h3 : decide (UInt8.ofNat a.toNat < UInt8.ofNat b.toNat) = decide (a < b) := by
      rw [decide_eq_decide]
      show (UInt8.ofNat a.toNat).toNat < (UInt8.ofNat b.toNat).toNat ↔ _
      rw [h1, h2]
      omega
    have h4 : (UInt8.ofNat a.toNat == UInt8.ofNat b.toNat) = (a == b) := by
      rw [Bool.eq_iff_iff, beq_iff_eq, beq_iff_eq, ← UInt8.toNat_inj, h1, h2]
      omega
    rw [h3, h4]
/-- A number's bytes, the highest first. -/
def beN : Nat → Nat → List Int
  | 0, _ => []
  | d + 1, n => ((n / 256 ^ d % 256 : Nat) : Int) :: beN d n
theorem beN_len : ∀ d n, (beN d n).length = d
  | 0, _ => rfl
  | d + 1, n => by simp [beN, beN_len d n]
theorem beN_byt : ∀ d n, Byt (beN d n)
  | 0, _ => fun x hx => by simp [beN] at hx
  | d + 1, n => fun x hx => by
    rcases List.mem_cons.1 hx with rfl | h
    · omega
    · exact beN_byt d n x h
theorem be_less (p q : List Int) : ∀ d n m, iless (beN d n ++ p) (beN d m ++ q) = if n % 256 ^ d = m % 256 ^ d then iless p q else decide (n % 256 ^ d < m % 256 ^ d)
  | 0, n, m => by simp [beN, Nat.mod_one]
  | d + 1, n, m => by
    simp only [beN, List.cons_append, iless]
    rw [be_less p q d n m, Nat.pow_succ, Nat.mod_mul, Nat.mod_mul]
    obtain ⟨P, hP⟩ : ∃ P, P = 256 ^ d := ⟨_, rfl⟩
    have hpos : 0 < P := by rw [hP]; exact Nat.pow_pos (by omega)
    rw [← hP]
    obtain ⟨a, ha⟩ : ∃ a, a = n / P % 256 := ⟨_, rfl⟩
    obtain ⟨b, hb⟩ : ∃ b, b = m / P % 256 := ⟨_, rfl⟩
    obtain ⟨r, hr⟩ : ∃ r, r = n % P := ⟨_, rfl⟩
    obtain ⟨t, ht⟩ : ∃ t, t = m % P := ⟨_, rfl⟩
    have hr1 : r < P := by rw [hr]; exact Nat.mod_lt _ hpos
    have ht1 : t < P := by rw [ht]; exact Nat.mod_lt _ hpos
    rw [← ha, ← hb, ← hr, ← ht]
    rcases Nat.lt_trichotomy a b with h | h | h
    · have h2 : P * a + P ≤ P * b := by rw [← Nat.mul_succ]; exact Nat.mul_le_mul_left P h
      rw [show decide ((a : Int) < (b : Int)) = true from decide_eq_true (by omega), Bool.true_or, if_neg (by omega)]
      exact (decide_eq_true (by omega)).symm
    · subst h
      rw [show decide ((a : Int) < (a : Int)) = false from decide_eq_false (by omega), Bool.false_or, show ((a : Int) == (a : Int)) = true from beq_iff_eq.mpr rfl, Bool.true_and]
      by_cases h2 : r = t
      · rw [if_pos h2, if_pos (by omega)]
      · rw [if_neg h2, if_neg (by omega), decide_eq_decide]
        omega
    · have h2 : P * b + P ≤ P * a := by rw [← Nat.mul_succ]; exact Nat.mul_le_mul_left P h
      rw [show decide ((a : Int) < (b : Int)) = false from decide_eq_false (by omega), Bool.false_or, show ((a : Int) == (b : Int)) = false from beq_eq_false_iff_ne.mpr (by omega), Bool.false_and, if_neg (by omega)]
      exact (decide_eq_false (by omega)).symm
theorem word_l0 (n : Nat) : ∀ (d k : Nat) (l : List Int), d ≤ 8 → d < k → l.length + d ≤ 140737488355300 → order_word.l0 k l (n : Int) (8 * (d : Int) - 8) = some (l ++ beN d n)
  | 0, k, l, h8, hk, hl => by
    obtain ⟨k, rfl⟩ : ∃ q, k = q + 1 := ⟨k - 1, by omega⟩
    simp only [order_word.l0]
    rw [if_neg (by omega)]
    simp [beN]
  | d + 1, k, l, h8, hk, hl => by
    obtain ⟨k, rfl⟩ : ∃ q, k = q + 1 := ⟨k - 1, by omega⟩
    simp only [order_word.l0]
    have e0 : (8 * ((d + 1 : Nat) : Int) - 8) = ((8 * d : Nat) : Int) := by omega
    have e1 : IntKind.u64.wrap ((8 * d : Nat) : Int) = ((8 * d : Nat) : Int) := by simp [IntKind.wrap, IntKind.signed, IntKind.bits]; omega
    have e2 : wrap64 (((8 * d : Nat) : Int) - 8) = 8 * (d : Int) - 8 := by rw [w64 _ (by omega) (by omega)]; omega
    rw [e0, e1, e2, if_pos (by omega), if_pos (by omega), if_pos (by omega)]
    have e3 : shr .u64 (n : Int) ((8 * d : Nat) : Int) % 256 = ((n / 256 ^ d % 256 : Nat) : Int) := by
      unfold shr
      have hp : ((2 ^ (8 * d) : Nat) : Int) = ((256 ^ d : Nat) : Int) := by rw [Nat.pow_mul]
      have hp2 : (2 : Int) ^ (8 * d) = ((2 ^ (8 * d) : Nat) : Int) := by simp
      rw [Int.toNat_natCast, Nat.min_eq_left (by show 8 * d ≤ 64; omega), hp2, hp]
      simp
    rw [e3, word_l0 n d k _ (by omega) (by omega) (by simp; omega)]
    simp [beN]
theorem word_f (n k : Nat) (l : List Int) (hk : 9 ≤ k) (hl : l.length ≤ 140737488355000) : order_word.f k l (n : Int) = some (l ++ beN 8 n) := by
  unfold order_word.f
  have h := word_l0 n 8 k l (by omega) (by omega) (by omega)
  simpa using h
/-- A whole number, moved to where no sign is. -/
def up (n : Int) : Nat := (n + 9223372036854775808).toNat
/-- A value's bytes. -/
def encI (x : S41) : List Int :=
  ((x.f0 + 1) % 256) :: (if x.f0 = 1 then beN 8 (up x.f1) else if x.f0 = 2 then bytesOf x.f2 ++ [0] else if x.f0 = 3 then [if x.f3 = true then 1 else 0] else [])
def encL : List S41 → List Int
  | [] => []
  | x :: l => encI x ++ encL l
theorem encI_byt (x : S41) : Byt (encI x) := by
  intro c hc
  unfold encI at hc
  rcases List.mem_cons.1 hc with rfl | h
  · omega
  · split at h
    · exact beN_byt _ _ c h
    · split at h
      · rcases List.mem_append.1 h with h | h
        · exact bytesOf_byt _ c h
        · simp at h; omega
      · split at h
        · split at h <;> simp at h <;> omega
        · simp at h
theorem encL_byt : ∀ l, Byt (encL l)
  | [] => fun c hc => by simp [encL] at hc
  | x :: l => fun c hc => by
    rcases List.mem_append.1 hc with h | h
    · exact encI_byt x c h
    · exact encL_byt l c h
theorem encL_append (a b : List S41) : encL (a ++ b) = encL a ++ encL b := by
  induction a with
  | nil => rfl
  | cons x l ih => simp [encL, ih]
/-- A value that may be. -/
structure Ok (x : S41) : Prop where
  v : valid x = none
  i : -9223372036854775808 ≤ x.f1 ∧ x.f1 ≤ 9223372036854775807
theorem Ok.size {x : S41} (h : Ok x) : x.f2.size ≤ 4096 := by
  have hv := h.v
  unfold valid tailv at hv
  split at hv
  · split at hv
    · cases hv
    · omega
  · cases hv
theorem Ok.shape {x : S41} (h : Ok x) : EncL.shape x = true := by
  have hv := h.v
  unfold valid at hv
  split at hv
  · assumption
  · cases hv
theorem encI_len {x : S41} (h : Ok x) : (encI x).length ≤ 4100 := by
  have hs := h.size
  unfold encI
  rw [List.length_cons]
  split
  · rw [beN_len]; omega
  · split
    · rw [List.length_append, bytesOf_length, List.length_singleton]; omega
    · split
      · simp
      · simp
theorem up_xor (n : Int) (h0 : -9223372036854775808 ≤ n) (h1 : n ≤ 9223372036854775807) : Go.bits .xor .u64 (IntKind.u64.wrap n) 9223372036854775808 = ((up n : Nat) : Int) := by
  have hx : ∀ a : Nat, a < 18446744073709551616 → a ^^^ 9223372036854775808 = if a < 9223372036854775808 then a + 9223372036854775808 else a - 9223372036854775808 := by
    intro a ha
    have e1 : (a ^^^ 9223372036854775808) % 2 ^ 63 = a % 2 ^ 63 := by
      rw [Nat.xor_mod_two_pow, show (9223372036854775808 : Nat) % 2 ^ 63 = 0 by decide, Nat.xor_zero]
    have e2 : (a ^^^ 9223372036854775808) / 2 ^ 63 = (a / 2 ^ 63) ^^^ 1 := by
      rw [Nat.xor_div_two_pow, show (9223372036854775808 : Nat) / 2 ^ 63 = 1 by decide]
    have e3 := Nat.div_add_mod (a ^^^ 9223372036854775808) (2 ^ 63)
    rw [e1, e2] at e3
    have hq : a / 2 ^ 63 = 0 ∨ a / 2 ^ 63 = 1 := by omega
    rcases hq with hq | hq
    · rw [hq] at e3
      rw [← e3, if_pos (by omega), show (0 ^^^ 1 : Nat) = 1 by decide]
      omega
    · rw [hq] at e3
      rw [← e3, if_neg (by omega), show (1 ^^^ 1 : Nat) = 0 by decide]
      omega
  obtain ⟨a, ha⟩ : ∃ a : Nat, IntKind.u64.wrap n = (a : Int) ∧ a < 18446744073709551616 := by
    refine ⟨(IntKind.u64.wrap n).toNat, ?_, ?_⟩
    · simp [IntKind.wrap, IntKind.signed, IntKind.bits]; omega
    · simp [IntKind.wrap, IntKind.signed, IntKind.bits]; omega
  have hn : (a : Int) = n % 18446744073709551616 := by
    rw [← ha.1]
    simp [IntKind.wrap, IntKind.signed, IntKind.bits]
  rw [ha.1, show (9223372036854775808 : Int) = ((9223372036854775808 : Nat) : Int) from rfl, Go.u64_xor_nat a 9223372036854775808 ha.2 (by omega), hx a ha.2]
  unfold up
  have ha2 := ha.2
  clear hx ha
  split <;> omega
theorem rd_drop (l : List S41) (i : Nat) (h : i < l.length) : encL (l.drop i) = encI l[i] ++ encL (l.drop (i + 1)) := by
  rw [List.drop_eq_getElem_cons h]
  rfl
/-- The text of all values, laid behind what is there. -/
theorem enc_l1 (l : List S41) (hl : l.length ≤ 16) (hv : ∀ x ∈ l, Ok x) : ∀ (d i k : Nat) (b : List Int), i + d = l.length → d + 20 ≤ k → b.length ≤ 4100 * i → order_Encode.l1 k b l (l.length : Int) (i : Int) = some (strOfNums (b ++ encL (l.drop i)), none)
  | 0, i, k, b, hi, hk, hb => by
    obtain ⟨k, rfl⟩ : ∃ q, k = q + 1 := ⟨k - 1, by omega⟩
    simp only [order_Encode.l1]
    rw [if_neg (by omega), List.drop_eq_nil_of_le (by omega)]
    simp [encL]
  | d + 1, i, k, b, hi, hk, hb => by
    obtain ⟨k, rfl⟩ : ∃ q, k = q + 1 := ⟨k - 1, by omega⟩
    have hil : i < l.length := by omega
    have ho := hv l[i] (List.getElem_mem hil)
    have hlen := encI_len ho
    have hsz := ho.size
    have ih := fun c (hc : c.length ≤ 4100 * (i + 1)) => enc_l1 l hl hv d (i + 1) k c (by omega) (by omega) hc
    have hstep : wrap64 ((i : Int) + 1) = ((i + 1 : Nat) : Int) := by rw [w64 _ (by omega) (by omega)]; omega
    simp only [order_Encode.l1]
    rw [if_pos (by omega), if_pos (by omega), if_pos (by omega), if_pos (by omega), Option.bind_some, rd_at l i hil, hstep, rd_drop l i hil]
    obtain ⟨x, hx⟩ : ∃ x, x = l[i] := ⟨_, rfl⟩
    rw [← hx] at ho hlen hsz ⊢
    by_cases h1 : x.f0 = 1
    · rw [if_pos h1, up_xor x.f1 ho.i.1 ho.i.2, word_f _ _ _ (by omega) (by simp; omega), Option.bind_some, ih _ (by simp [beN_len]; omega)]
      congr 3
      unfold encI
      rw [if_pos h1]
      simp
    · rw [if_neg h1]
      by_cases h2 : x.f0 = 2
      · rw [if_pos h2, if_pos (by simp; omega), Option.bind_some, if_pos (by simp [bytesOf_length]; omega), ih _ (by simp [bytesOf_length]; omega)]
        congr 3
        unfold encI
        rw [if_neg h1, if_pos h2]
        simp
      · rw [if_neg h2]
        by_cases h3 : x.f0 = 3
        · rw [if_pos h3]
          by_cases h4 : x.f3 = true
          · rw [if_pos h4, if_pos (by simp; omega), ih _ (by simp; omega)]
            congr 3
            unfold encI
            rw [if_neg h1, if_neg h2, if_pos h3, if_pos h4]
            simp
          · rw [if_neg h4, if_pos (by simp; omega), ih _ (by simp; omega)]
            congr 3
            unfold encI
            rw [if_neg h1, if_neg h2, if_pos h3, if_neg h4]
            simp
        · rw [if_neg h3, ih _ (by simp; omega)]
          congr 3
          unfold encI
          rw [if_neg h1, if_neg h2, if_neg h3]
          simp
/-- The first value that may not be. -/
def firstBad : List S41 → Option Int
  | [] => none
  | x :: l => if valid x = none then firstBad l else valid x
theorem firstBad_pos {x : S41} {l : List S41} (h : valid x = none) : firstBad (x :: l) = firstBad l := by
  unfold firstBad
  rw [if_pos h]
  cases l <;> rfl
theorem firstBad_neg {x : S41} {l : List S41} {c : Int} (h : valid x = some c) : firstBad (x :: l) = some c := by
  unfold firstBad
  rw [if_neg (by rw [h]; simp), h]
def encode (l : List S41) : ByteArray × Option Int :=
  if firstBad l = none then (if 16 < l.length then (⟨#[]⟩, some 2) else (strOfNums (encL l), none)) else (⟨#[]⟩, firstBad l)
theorem firstBad_ok (l : List S41) (h : firstBad l = none) : ∀ x ∈ l, valid x = none := by
  induction l with
  | nil => intro x hx; cases hx
  | cons y l ih =>
    unfold firstBad at h
    split at h
    · intro x hx
      rcases List.mem_cons.1 hx with rfl | hx
      · assumption
      · exact ih h x hx
    · exact absurd h (by assumption)
theorem enc_l0 (l : List S41) (hl : l.length < 4611686018427387904) (hr : ∀ x ∈ l, -9223372036854775808 ≤ x.f1 ∧ x.f1 ≤ 9223372036854775807) (hg : firstBad l = none → 16 < l.length ∨ ∀ x ∈ l, Ok x) :
    ∀ (d i k : Nat), i + d = l.length → d + 60 ≤ k → (∀ j (hj : j < l.length), j < i → valid l[j] = none) → order_Encode.l0 k l l (l.length : Int) (i : Int) = some (if firstBad (l.drop i) = none then (if 16 < l.length then (⟨#[]⟩, some 2) else (strOfNums (encL l), none)) else (⟨#[]⟩, firstBad (l.drop i)))
  | 0, i, k, hi, hk, hp => by
    obtain ⟨k, rfl⟩ : ∃ q, k = q + 1 := ⟨k - 1, by omega⟩
    simp only [order_Encode.l0]
    rw [if_neg (by omega), List.drop_eq_nil_of_le (by omega), show firstBad ([] : List S41) = none from rfl, if_pos (show (none : Option Int) = none from rfl)]
    by_cases h16 : 16 < l.length
    · rw [if_pos (by omega), if_pos h16]
    · rw [if_neg (by omega), if_neg h16]
      have hok : ∀ x ∈ l, Ok x := by
        intro x hx
        obtain ⟨j, hj, rfl⟩ := List.mem_iff_getElem.1 hx
        exact ⟨hp j hj (by omega), hr _ hx⟩
      have h := enc_l1 l (by omega) hok l.length 0 k [] (by omega) (by omega) (by simp)
      simpa using h
  | d + 1, i, k, hi, hk, hp => by
    obtain ⟨k, rfl⟩ : ∃ q, k = q + 1 := ⟨k - 1, by omega⟩
    have hil : i < l.length := by omega
    simp only [order_Encode.l0]
    rw [if_pos (by omega), if_pos (by omega), if_pos (by omega), rd_at l i hil, valid_f k (by omega), Option.bind_some, List.drop_eq_getElem_cons hil]
    by_cases hv : valid l[i] = none
    · rw [firstBad_pos hv, hv, if_pos (by rfl), show wrap64 ((i : Int) + 1) = ((i + 1 : Nat) : Int) by rw [w64 _ (by omega) (by omega)]; omega]
      refine enc_l0 l hl hr hg d (i + 1) k (by omega) (by omega) (fun j hj hji => ?_)
      by_cases h : j = i
      · subst h; exact hv
      · exact hp j hj (by omega)
    · obtain ⟨c, hc⟩ := Option.ne_none_iff_exists'.1 hv
      rw [firstBad_neg hc, hc, if_neg (by show ¬ (some c).isNone = true; simp), if_neg (show ¬ (some c = none) by simp)]
      rfl
theorem encode_f (k : Nat) (l : List S41) (hl : l.length < 4611686018427387904) (hr : ∀ x ∈ l, -9223372036854775808 ≤ x.f1 ∧ x.f1 ≤ 9223372036854775807) (hk : l.length + 60 ≤ k) : order_Encode.f k l = some (encode l) := by
  unfold order_Encode.f encode
  have h := enc_l0 l hl hr (fun h => .inr fun x hx => ⟨firstBad_ok l h x hx, hr x hx⟩) l.length 0 k (by omega) (by omega) (fun j hj h => by omega)
  simpa using h
/-- What a list that may be is told as. -/
theorem encode_ok {l : List S41} (h : (encode l).2 = none) : (∀ x ∈ l, valid x = none) ∧ l.length ≤ 16 ∧ encode l = (strOfNums (encL l), none) := by
  unfold encode at h ⊢
  by_cases h1 : firstBad l = none
  · rw [if_pos h1] at h ⊢
    by_cases h2 : 16 < l.length
    · rw [if_pos h2] at h; cases h
    · rw [if_neg h2]
      exact ⟨firstBad_ok l h1, by omega, rfl⟩
  · rw [if_neg h1] at h
    exact absurd h h1
theorem encode_of_ok {l : List S41} (h : ∀ x ∈ l, valid x = none) (h16 : l.length ≤ 16) : encode l = (strOfNums (encL l), none) := by
  have hb : firstBad l = none := by
    clear h16
    induction l with
    | nil => rfl
    | cons y l ih =>
      unfold firstBad
      rw [if_pos (h y (by simp))]
      exact ih (fun x hx => h x (by simp [hx]))
  unfold encode
  rw [if_pos hb, if_neg (by omega)]
theorem shape_cases {x : S41} (h : shape x = true) : (x.f0 = 0 ∧ x.f1 = 0 ∧ x.f2 = ⟨#[]⟩ ∧ x.f3 = false) ∨ (x.f0 = 1 ∧ x.f2 = ⟨#[]⟩ ∧ x.f3 = false) ∨ (x.f0 = 2 ∧ x.f1 = 0 ∧ x.f3 = false) ∨ (x.f0 = 3 ∧ x.f1 = 0 ∧ x.f2 = ⟨#[]⟩) := by
  have he : ∀ s : ByteArray, s.toList = [] → s = ⟨#[]⟩ := by
    intro s hs
    apply ByteArray.ext
    apply Array.toList_inj.1
    rw [Lib.toList_data] at hs
    exact hs
  unfold shape at h
  simp only [Bool.or_eq_true, Bool.and_eq_true, beq_iff_eq, Bool.not_eq_true'] at h
  rcases h with ((⟨⟨⟨h1, h2⟩, h3⟩, h4⟩ | ⟨⟨h1, h2⟩, h3⟩) | ⟨⟨h1, h2⟩, h3⟩) | ⟨⟨h1, h2⟩, h3⟩
  · exact .inl ⟨h1, h2, he _ h3, h4⟩
  · exact .inr (.inl ⟨h1, he _ h2, h3⟩)
  · exact .inr (.inr (.inl ⟨h1, h2, h3⟩))
  · exact .inr (.inr (.inr ⟨h1, h2, he _ h3⟩))
theorem decode_hi (s : ByteArray) (pos : Nat) (h : pos < s.size) (hb : 128 ≤ (s[pos]'h).toNat) : 128 ≤ (Utf8.decode s pos).1 := by
  have e : s.get! (pos + 0) = s[pos]'h := by
    rw [Nat.add_zero]
    show s.data[pos]! = s.data[pos]
    exact getElem!_pos s.data pos h
  unfold Utf8.decode
  simp only [e]
  rw [if_neg (by omega)]
  repeat' split
  all_goals simp only [Utf8.runeError]
  all_goals first
    | omega
    | (rename_i hc; simp only [Bool.and_eq_true, decide_eq_true_eq, ge_iff_le] at hc; omega)
theorem printed_from (s : ByteArray) : ∀ (f pos : Nat), s.size ≤ pos + f → ¬ 0 ≤ Lib.idxFuncFrom notPrinted true s f pos → ∀ j, pos ≤ j → ∀ hj : j < s.size, 32 ≤ (s[j]'hj).toNat ∧ (s[j]'hj).toNat ≤ 126
  | 0, pos, hs, h, j, hp, hj => by omega
  | f + 1, pos, hs, h, j, hp, hj => by
    have hlt : pos < s.size := by omega
    unfold Lib.idxFuncFrom at h
    rw [if_pos hlt] at h
    by_cases hn : notPrinted (Utf8.decode s pos).1 = true
    · rw [if_pos hn] at h
      omega
    · rw [if_neg hn] at h
      have hn2 : 32 ≤ (Utf8.decode s pos).1 ∧ (Utf8.decode s pos).1 ≤ 126 := by
        unfold notPrinted at hn
        simp only [Bool.or_eq_true, decide_eq_true_eq, not_or] at hn
        omega
      by_cases hb : (s[pos]'hlt).toNat < 128
      · have hd := decode_ascii s pos hlt hb
        rw [hd] at h hn2
        by_cases hjp : j = pos
        · subst hjp
          exact hn2
        · exact printed_from s f (pos + 1) (by omega) h j (by omega) hj
      · have := decode_hi s pos hlt (by omega)
        omega
theorem Ok.printed {x : S41} (h : Ok x) : ∀ c ∈ bytesOf x.f2, 32 ≤ c ∧ c ≤ 126 := by
  have hv := h.v
  have hs := h.shape
  have hz := h.size
  unfold valid tailv at hv
  rw [if_pos hs, if_neg (by omega)] at hv
  have hi : ¬ 0 ≤ Lib.idxFunc notPrinted true x.f2 := by
    intro hi
    rw [if_pos hi] at hv
    cases hv
  intro c hc
  unfold bytesOf at hc
  obtain ⟨b, hb, rfl⟩ := List.mem_map.1 hc
  obtain ⟨j, hj, rfl⟩ := List.mem_iff_getElem.1 hb
  have hj' : j < x.f2.size := by simpa using hj
  have := printed_from x.f2 x.f2.size 0 (by omega) hi j (by omega) hj'
  have e : x.f2.data.toList[j] = x.f2[j]'hj' := by simp only [Array.getElem_toList]; rfl
  rw [e]
  omega
theorem iless_self : ∀ l, iless l l = false
  | [] => rfl
  | a :: l => by
    simp only [iless, iless_self l]
    simp
theorem iless_ne : ∀ l m, l ≠ m → iless m l = !iless l m
  | [], [] => fun h => absurd rfl h
  | [], _ :: _ => fun _ => rfl
  | _ :: _, [] => fun _ => rfl
  | a :: l, b :: m => fun h => by
    simp only [iless]
    rcases Int.lt_trichotomy a b with h1 | h1 | h1
    · rw [show decide (a < b) = true from decide_eq_true h1, show decide (b < a) = false from decide_eq_false (by omega), show (b == a) = false from beq_eq_false_iff_ne.mpr (by omega)]
      rfl
    · subst h1
      have hlm : l ≠ m := fun e => h (by rw [e])
      rw [show decide (a < a) = false from decide_eq_false (by omega), show (a == a) = true from beq_iff_eq.mpr rfl, iless_ne l m hlm]
      simp
    · rw [show decide (a < b) = false from decide_eq_false (by omega), show decide (b < a) = true from decide_eq_true h1, show (a == b) = false from beq_eq_false_iff_ne.mpr (by omega)]
      rfl
theorem txt_less (p q : List Int) : ∀ s t : List Int, (∀ c ∈ s, 0 < c) → (∀ c ∈ t, 0 < c) → iless (s ++ 0 :: p) (t ++ 0 :: q) = if s = t then iless p q else iless s t
  | [], [] => fun _ _ => by simp [iless]
  | [], b :: t => fun _ ht => by
    have := ht b (by simp)
    rw [if_neg (by simp)]
    simp only [List.nil_append, List.cons_append, iless]
    rw [show decide ((0 : Int) < b) = true from decide_eq_true this]
    rfl
  | a :: s, [] => fun hs _ => by
    have := hs a (by simp)
    rw [if_neg (by simp)]
    simp only [List.nil_append, List.cons_append, iless]
    rw [show decide (a < 0) = false from decide_eq_false (by omega), show (a == 0) = false from beq_eq_false_iff_ne.mpr (by omega)]
    rfl
  | a :: s, b :: t => fun hs ht => by
    have ih := txt_less p q s t (fun c hc => hs c (by simp [hc])) (fun c hc => ht c (by simp [hc]))
    simp only [List.cons_append, iless, ih]
    by_cases h : a = b
    · subst h
      by_cases h2 : s = t
      · subst h2
        simp
      · rw [if_neg h2, if_neg (by intro e; exact h2 (by injection e))]
    · rw [show (a == b) = false from beq_eq_false_iff_ne.mpr h, Bool.false_and, Bool.or_false, if_neg (show ¬ (a :: s = b :: t) from fun e => h (List.cons.inj e).1)]
      simp
theorem sgn_iff (a b : Bool) (h : a = true → b = false) : (sgn a b = 0 ↔ a = false ∧ b = false) ∧ (sgn a b = -1 ↔ a = true) := by
  cases a <;> cases b <;> simp_all [sgn]
theorem str_less (s t : ByteArray) : Op.bytesLess s.toList t.toList = iless (bytesOf s) (bytesOf t) := by
  rw [← less_son _ _ (bytesOf_byt s) (bytesOf_byt t), ← son_toList, ← son_toList, son_bytesOf, son_bytesOf]
theorem up_lt (n : Int) (h : -9223372036854775808 ≤ n ∧ n ≤ 9223372036854775807) : up n < 18446744073709551616 := by unfold up; omega
theorem enc_less (x y : S41) (hx : Ok x) (hy : Ok y) (p q : List Int) : iless (encI x ++ p) (encI y ++ q) = if vcmp x y = 0 then iless p q else decide (vcmp x y = -1) := by
  have kx := shape_cases hx.shape
  have ky := shape_cases hy.shape
  by_cases h0 : x.f0 = y.f0
  · have hv : vcmp x y = (if x.f0 = 1 then sgn (decide (x.f1 < y.f1)) (decide (y.f1 < x.f1)) else if x.f0 = 2 then sgn (Op.bytesLess x.f2.toList y.f2.toList) (Op.bytesLess y.f2.toList x.f2.toList) else if x.f0 = 3 then sgn (!x.f3 && y.f3) (x.f3 && !y.f3) else 0) := by
      unfold vcmp
      rw [if_pos h0]
    rw [hv]
    unfold encI
    rw [← h0, List.cons_append, List.cons_append]
    simp only [iless]
    rw [show decide ((x.f0 + 1) % 256 < (x.f0 + 1) % 256) = false from decide_eq_false (by omega), show ((x.f0 + 1) % 256 == (x.f0 + 1) % 256) = true from beq_iff_eq.mpr rfl, Bool.false_or, Bool.true_and]
    by_cases h1 : x.f0 = 1
    · rw [if_pos h1, if_pos h1, if_pos h1, be_less]
      have e : (256 : Nat) ^ 8 = 18446744073709551616 := by decide
      have a1 := up_lt x.f1 hx.i
      have a2 := up_lt y.f1 hy.i
      have b1 := hx.i
      have b2 := hy.i
      rw [e, Nat.mod_eq_of_lt a1, Nat.mod_eq_of_lt a2]
      have hs := sgn_iff (decide (x.f1 < y.f1)) (decide (y.f1 < x.f1)) (fun h => by simp at h ⊢; omega)
      have e1 : up x.f1 = up y.f1 ↔ x.f1 = y.f1 := by unfold up; omega
      have e2 : up x.f1 < up y.f1 ↔ x.f1 < y.f1 := by unfold up; omega
      by_cases h2 : x.f1 = y.f1
      · rw [if_pos (e1.2 h2), if_pos (hs.1.2 ⟨decide_eq_false (by omega), decide_eq_false (by omega)⟩)]
      · rw [if_neg (fun h => h2 (e1.1 h)), if_neg (fun h => h2 (by have := hs.1.1 h; simp at this; omega)), decide_eq_decide, hs.2, e2, decide_eq_true_iff]
    · rw [if_neg h1, if_neg h1, if_neg h1]
      by_cases h2 : x.f0 = 2
      · rw [if_pos h2, if_pos h2, if_pos h2, List.append_assoc, List.append_assoc, List.singleton_append, List.singleton_append, txt_less p q _ _ (fun c hc => by have := hx.printed c hc; omega) (fun c hc => by have := hy.printed c hc; omega), str_less, str_less]
        by_cases h3 : bytesOf x.f2 = bytesOf y.f2
        · rw [if_pos h3, h3, iless_self]
          simp [sgn]
        · have hn := iless_ne _ _ h3
          rw [if_neg h3, hn]
          cases iless (bytesOf x.f2) (bytesOf y.f2) <;> simp [sgn]
      · rw [if_neg h2, if_neg h2, if_neg h2]
        by_cases h3 : x.f0 = 3
        · rw [if_pos h3, if_pos h3, if_pos h3]
          simp only [List.singleton_append, iless]
          cases x.f3 <;> cases y.f3 <;> simp [sgn]
        · rw [if_neg h3, if_neg h3, if_neg h3]
          simp
  · have hv : vcmp x y = sgn (decide (x.f0 < y.f0)) (decide (y.f0 < x.f0)) := by
      unfold vcmp
      rw [if_neg h0]
    have rx : 0 ≤ x.f0 ∧ x.f0 ≤ 3 := by rcases kx with h | h | h | h <;> omega
    have ry : 0 ≤ y.f0 ∧ y.f0 ≤ 3 := by rcases ky with h | h | h | h <;> omega
    have hs := sgn_iff (decide (x.f0 < y.f0)) (decide (y.f0 < x.f0)) (fun h => by simp at h ⊢; omega)
    rw [hv, if_neg (fun h => h0 (by have := hs.1.1 h; simp at this; omega))]
    unfold encI
    rw [List.cons_append, List.cons_append]
    simp only [iless]
    rw [show ((x.f0 + 1) % 256 == (y.f0 + 1) % 256) = false from beq_eq_false_iff_ne.mpr (by omega), Bool.false_and, Bool.or_false, decide_eq_decide, hs.2, decide_eq_true_iff]
    omega
theorem vcmp_tri (x y : S41) : vcmp x y = -1 ∨ vcmp x y = 0 ∨ vcmp x y = 1 := by
  have h : ∀ a b, sgn a b = -1 ∨ sgn a b = 0 ∨ sgn a b = 1 := by intro a b; cases a <;> cases b <;> simp [sgn]
  unfold vcmp
  repeat' split
  all_goals first
    | exact h _ _
    | simp
theorem vcmp_back (x y : S41) : vcmp y x = -vcmp x y := by
  have h : ∀ a b : Bool, (a = true → b = false) → sgn b a = -sgn a b := by intro a b; cases a <;> cases b <;> simp [sgn]
  have hl : ∀ a b : Int, sgn (decide (b < a)) (decide (a < b)) = -sgn (decide (a < b)) (decide (b < a)) := fun a b => h _ _ (fun h => by simp at h ⊢; omega)
  unfold vcmp
  by_cases h0 : x.f0 = y.f0
  · rw [if_pos h0, if_pos h0.symm, ← h0]
    by_cases h1 : x.f0 = 1
    · rw [if_pos h1, if_pos h1, hl]
    · rw [if_neg h1, if_neg h1]
      by_cases h2 : x.f0 = 2
      · rw [if_pos h2, if_pos h2]
        apply h
        rw [str_less, str_less]
        by_cases h3 : bytesOf x.f2 = bytesOf y.f2
        · rw [h3, iless_self]; simp
        · rw [iless_ne _ _ h3]; cases iless (bytesOf x.f2) (bytesOf y.f2) <;> simp
      · rw [if_neg h2, if_neg h2]
        by_cases h3 : x.f0 = 3
        · rw [if_pos h3, if_pos h3]
          cases x.f3 <;> cases y.f3 <;> simp [sgn]
        · rw [if_neg h3, if_neg h3]; rfl
  · rw [if_neg h0, if_neg (Ne.symm h0), hl]
/-- The lists' texts are ordered as the lists are. -/
theorem lists_less : ∀ a b : List S41, (∀ x ∈ a, Ok x) → (∀ x ∈ b, Ok x) → sgn (iless (encL a) (encL b)) (iless (encL b) (encL a)) = lcmp a b
  | [], [] => fun _ _ => by simp [encL, iless, lcmp, sgn]
  | [], y :: b => fun _ _ => by simp [encL, encI, iless, lcmp, sgn]
  | x :: a, [] => fun _ _ => by simp [encL, encI, iless, lcmp, sgn]
  | x :: a, y :: b => fun ha hb => by
    have ih := lists_less a b (fun z hz => ha z (by simp [hz])) (fun z hz => hb z (by simp [hz]))
    have e1 := enc_less x y (ha x (by simp)) (hb y (by simp)) (encL a) (encL b)
    have e2 := enc_less y x (hb y (by simp)) (ha x (by simp)) (encL b) (encL a)
    simp only [encL, lcmp]
    rw [e1, e2, vcmp_back x y]
    rcases vcmp_tri x y with h | h | h
    · rw [h]; simp [sgn]
    · rw [h]; simpa using ih
    · rw [h]; simp [sgn]
end EncL
end Go.Proofs.YtcchjnadhjeniaaDoor.Pure
