/- Labels, plain: what dominates, what their texts are, and what is read of texts. -/
import Derived.Test.YtckgmbkhdgcldaaDoorXOrdx2
import Derived.Test.YtckgmbkhdgcldaaDoorXOrdx5
import Derived.Test.YtckgmbkhdgcldaaDoorXOrdx6
import Derived.Lib.AtoiAllCases
namespace Go.Proofs.YtckgmbkhdgcldaaDoor.Pure
open Go.RowKit Go.Proofs.YtckgmbkhdgcldaaDoor.XOrd Go.Proofs.YtckgmbkhdgcldaaDoorW.PrintWords Go.Proofs.YtckgmbkhdgcldaaDoorW.PrintLast Go.Proofs.YtckgmbkhdgcldaaDoorW.PrintMore
set_option linter.unusedVariables false
set_option linter.unusedSimpArgs false
namespace LabP
theorem u32_wf {n : Int} (h : (Lit.int .u32 n).wf = true) : 0 ≤ n ∧ n < 4294967296 := by
  simp [Lit.wf, IntKind.min, IntKind.max, IntKind.bits, IntKind.signed] at h
  omega
theorem i64_wf {n : Int} (h : (Lit.int .i64 n).wf = true) : -9223372036854775808 ≤ n ∧ n ≤ 9223372036854775807 := by
  simp [Lit.wf, IntKind.min, IntKind.max, IntKind.bits, IntKind.signed] at h
  omega
theorem wrap64_small (x : Int) (h0 : -9223372036854775808 ≤ x) (h1 : x < 9223372036854775808) : wrap64 x = x := by
  unfold wrap64
  omega
/-- b's bits are all among a's. -/
def sub (b a : Nat) : Bool := (b &&& (4294967295 - a)) == 0
theorem sub_iff (a b : Nat) (ha : a < 4294967296) (hb : b < 4294967296) : sub b a = true ↔ ∀ i, b.testBit i = true → a.testBit i = true := by
  unfold sub
  rw [beq_iff_eq]
  constructor
  · intro h i hi
    have h1 := LabB.andNot_bit b a hb ha i
    rw [h, Nat.zero_testBit, hi] at h1
    simpa using h1.symm
  · intro h
    apply Nat.eq_of_testBit_eq
    intro i
    rw [LabB.andNot_bit b a hb ha i, Nat.zero_testBit]
    cases hb2 : b.testBit i with
    | false => rfl
    | true => rw [h i hb2]; rfl
theorem dom_f (x y : Int) (a b : Nat) (ha : a < 4294967296) (hb : b < 4294967296) : label_Dominates.f x (a : Int) y (b : Int) = some (decide (x ≥ y) && sub b a) := by
  unfold label_Dominates.f
  by_cases h : x ≥ y
  · rw [if_pos h, u32_andNot_nat b a hb ha, decide_eq_true h, Bool.true_and]
    unfold sub
    congr 1
    rw [Bool.eq_iff_iff, beq_iff_eq, beq_iff_eq]
    omega
  · rw [if_neg h, decide_eq_false h, Bool.false_and]
/-- What comes of two labels. -/
def cmpI (x y : Int) (a b : Nat) : Int := if x = y ∧ a = b then 0 else if (decide (x ≥ y) && sub b a) = true then 1 else if (decide (y ≥ x) && sub a b) = true then -1 else 2
theorem cmp_f (x y : Int) (a b : Nat) (ha : a < 4294967296) (hb : b < 4294967296) : label_Compare.f x (a : Int) y (b : Int) = some (cmpI x y a b) := by
  unfold label_Compare.f cmpI
  by_cases h : x = y ∧ a = b
  · rw [if_pos (by simp [h.1, h.2]), if_pos h]
  · rw [if_neg (by simp; omega), if_neg h, dom_f x y a b ha hb, Option.bind_some]
    by_cases h1 : (decide (x ≥ y) && sub b a) = true
    · rw [if_pos h1, if_pos h1]
    · rw [if_neg h1, if_neg h1, dom_f y x b a hb ha, Option.bind_some]
      by_cases h2 : (decide (y ≥ x) && sub a b) = true
      · rw [if_pos h2, if_pos h2]
      · rw [if_neg h2, if_neg h2]
theorem anti (x y : Int) (a b : Nat) (ha : a < 4294967296) (hb : b < 4294967296) (h1 : (decide (x ≥ y) && sub b a) = true) (h2 : (decide (y ≥ x) && sub a b) = true) : x = y ∧ a = b := by
  rw [Bool.and_eq_true, decide_eq_true_iff] at h1 h2
  refine ⟨by omega, ?_⟩
  apply Nat.eq_of_testBit_eq
  intro i
  rw [Bool.eq_iff_iff]
  exact ⟨(sub_iff b a hb ha).1 h2.2 i, (sub_iff a b ha hb).1 h1.2 i⟩
theorem sub_self (a : Nat) (ha : a < 4294967296) : sub a a = true := (sub_iff a a ha ha).2 fun _ h => h
/-- A rank's digits. -/
def digs (r : Nat) : List UInt8 := if r < 10 then [UInt8.ofNat (48 + r)] else [49, UInt8.ofNat (48 + (r - 10))]
theorem dec_digs (r : Nat) (h : r < 16) : Lib.decDigits r = digs r := by
  unfold digs
  by_cases h1 : r < 10
  · rw [if_pos h1, Lib.decDigits_one h1]
  · rw [if_neg h1, Lib.decDigits_two h1 (by omega), show r / 10 = 1 by omega, show r % 10 = r - 10 by omega]
    rfl
theorem atoi_digs (r : Nat) (h : r < 16) : Lab.atoiOf (digs r) = ((r : Int), true) := by
  have h1 : ∀ r : Fin 16, Lib.atoiAll (digs r.val) = .ok (r.val : Int) := by decide +kernel
  unfold Lab.atoiOf
  rw [h1 ⟨r, h⟩]
theorem digs_no (r : Nat) (h : r < 16) : ∀ c ∈ digs r, c ≠ 58 := by
  have h1 : ∀ r : Fin 16, ∀ c ∈ digs r.val, c ≠ 58 := by decide +kernel
  exact h1 ⟨r, h⟩
theorem digs_len (r : Nat) : (digs r).length ≤ 2 := by unfold digs; split <;> simp
theorem index_no (l : List UInt8) (h : ∀ c ∈ l, c ≠ 58) : Lib.indexByte l 58 = -1 := by
  induction l with
  | nil => rfl
  | cons b l ih =>
    have h1 : (b == 58) = false := by simpa using h b (by simp)
    unfold Lib.indexByte
    rw [h1, ih (fun c hc => h c (by simp [hc]))]
    rfl
theorem index_at (l m : List UInt8) (h : ∀ c ∈ l, c ≠ 58) : Lib.indexByte (l ++ 58 :: m) 58 = (l.length : Int) := by
  induction l with
  | nil => rfl
  | cons b l ih =>
    have h1 : (b == 58) = false := by simpa using h b (by simp)
    have h2 := ih (fun c hc => h c (by simp [hc]))
    rw [List.cons_append]
    unfold Lib.indexByte
    rw [h1, h2, if_neg (by simp), if_neg (by rw [beq_iff_eq]; omega), List.length_cons]
    rfl
theorem parts (l : List UInt8) : (∀ c ∈ l, c ≠ 58) ∨ ∃ p m, l = p ++ 58 :: m ∧ ∀ c ∈ p, c ≠ 58 := by
  induction l with
  | nil => exact .inl fun c hc => by cases hc
  | cons b l ih =>
    by_cases hb : b = 58
    · exact .inr ⟨[], l, by rw [hb]; rfl, fun c hc => by cases hc⟩
    · rcases ih with h | ⟨p, m, rfl, h⟩
      · exact .inl fun c hc => by rcases List.mem_cons.1 hc with rfl | hc; exact hb; exact h c hc
      · exact .inr ⟨b :: p, m, rfl, fun c hc => by rcases List.mem_cons.1 hc with rfl | hc; exact hb; exact h c hc⟩
theorem size_list (s : ByteArray) : s.data.toList.length = s.size := rfl
theorem cut_no (s : ByteArray) (h : ∀ c ∈ s.data.toList, c ≠ 58) : strings_Cut.f s ⟨#[58]⟩ = some (s, ⟨#[]⟩, false) := by
  unfold strings_Cut.f stringslite_Cut.f
  rw [show stringslite_Index.f s ⟨#[58]⟩ = some (Lib.indexByte s.data.toList 58) from rfl, index_no _ h, Option.bind_some, if_neg (by omega)]
  rfl
theorem cut_at (s : ByteArray) (hs : s.size ≤ 140737488355328) (l m : List UInt8) (hl : s.data.toList = l ++ 58 :: m) (h : ∀ c ∈ l, c ≠ 58) :
    ∃ z1 z2 : ByteArray, strings_Cut.f s ⟨#[58]⟩ = some (z1, z2, true) ∧ z1.data.toList = l ∧ z2.data.toList = m := by
  have hsz := size_list s
  rw [hl, List.length_append, List.length_cons] at hsz
  refine ⟨s.extract 0 l.length, s.extract (l.length + 1) s.size, ?_, ?_, ?_⟩
  · unfold strings_Cut.f stringslite_Cut.f
    have e1 : wrap64 ((l.length : Int) + ((⟨#[58]⟩ : ByteArray).size : Int)) = ((l.length + 1 : Nat) : Int) := by
      rw [show ((⟨#[58]⟩ : ByteArray).size : Int) = 1 from rfl, wrap64_small _ (by omega) (by omega)]
      omega
    rw [show stringslite_Index.f s ⟨#[58]⟩ = some (Lib.indexByte s.data.toList 58) from rfl, hl, index_at l m h, Option.bind_some, if_pos (by omega), if_pos (by omega), if_pos (by omega), e1, if_pos (by omega), if_pos (by omega), Option.bind_some]
    rfl
  · rw [ByteArray.data_extract, Array.toList_extract, hl]
    simp
  · rw [ByteArray.data_extract, Array.toList_extract, hl]
    simp
    rw [List.take_of_length_le (by omega)]
theorem ofNat_toNat (n : Nat) (h : n < 256) : (UInt8.ofNat n).toNat = n := by
  rw [UInt8.toNat_ofNat']
  omega
theorem low_step (c p : Nat) (h : c.testBit p = true) : c % 2 ^ p ||| 2 ^ p = c % 2 ^ (p + 1) := by
  apply Nat.eq_of_testBit_eq
  intro i
  rw [Nat.testBit_or, Nat.testBit_two_pow, Nat.testBit_mod_two_pow, Nat.testBit_mod_two_pow]
  by_cases h1 : i = p
  · subst h1
    simp [h]
  · have h2 : decide (p = i) = false := by rw [decide_eq_false_iff_not]; omega
    have h3 : decide (i < p + 1) = decide (i < p) := by rw [decide_eq_decide]; omega
    rw [h2, h3, Bool.or_false]
theorem low_skip (c p : Nat) (h : c.testBit p = false) : c % 2 ^ p = c % 2 ^ (p + 1) := by
  apply Nat.eq_of_testBit_eq
  intro i
  rw [Nat.testBit_mod_two_pow, Nat.testBit_mod_two_pow]
  by_cases h1 : i = p
  · subst h1
    simp [h]
  · have h3 : decide (i < p + 1) = decide (i < p) := by rw [decide_eq_decide]; omega
    rw [h3]
theorem setCats_to (c p : Nat) (hp : p ≤ 26) (rest : List UInt8) : LabL.setCats (LabL.catsTo c p ++ rest) 0 = LabL.setCats rest (c % 2 ^ p) := by
  induction p generalizing rest with
  | zero => rw [show LabL.catsTo c 0 = [] from rfl, Nat.pow_zero, Nat.mod_one]; rfl
  | succ p ih =>
    cases h : c.testBit p with
    | false =>
      rw [LabL.catsTo_skip c p 1 (fun i h1 h2 => by rw [show i = p by omega]; exact h), ih (by omega), low_skip c p h]
    | true =>
      rw [LabL.catsTo_hit c p h, List.append_assoc, ih (by omega), List.singleton_append, LabL.setCats, ofNat_toNat _ (by omega), if_pos (by omega), show 97 + p - 97 = p by omega, low_step c p h]
theorem setCats_cats (c : Nat) (hc : c < 67108864) : LabL.setCats (LabL.cats c) 0 = some c := by
  have h := setCats_to c 26 (Nat.le_refl _) []
  rw [List.append_nil] at h
  unfold LabL.cats
  rw [h, LabL.setCats, Nat.mod_eq_of_lt (by have e : (2 : Nat) ^ 26 = 67108864 := by decide +kernel
                                            omega)]
def Ok (x : Int) (c : Nat) : Prop := 0 ≤ x ∧ x ≤ 15 ∧ c < 67108864
theorem valid_yes (x : Int) (c : Nat) (h : Ok x c) : label_Valid.f x (c : Int) = some none := by
  unfold label_Valid.f
  obtain ⟨h0, h1, h2⟩ := h
  rw [if_neg (by omega), if_neg (by omega), if_pos ((LabB.andNot_zero c (by omega)).2 h2)]
theorem valid_no (x : Int) (c : Nat) (hc : c < 4294967296) (h : ¬ Ok x c) : label_Valid.f x (c : Int) = some (some 20) := by
  unfold label_Valid.f
  by_cases h0 : x < 0
  · rw [if_pos h0]
  · rw [if_neg h0]
    by_cases h1 : x > 15
    · rw [if_pos h1]
    · rw [if_neg h1, if_neg]
      intro h2
      exact h ⟨by omega, by omega, (LabB.andNot_zero c hc).1 h2⟩
def textB (r c : Nat) : ByteArray := ⟨(label_textOf r c).toArray⟩
theorem text_yes (x : Int) (c : Nat) (h : Ok x c) : label_Text.f x (c : Int) = some (textB x.toNat c, none) := by
  unfold label_Text.f
  have h2 := h.2.2
  rw [if_pos (by omega), valid_yes x c h, Option.bind_some, if_pos (by rfl), Int.toNat_natCast]
  rfl
theorem text_no (x : Int) (c : Nat) (hc : c < 4294967296) (h : ¬ Ok x c) : label_Text.f x (c : Int) = some (ByteArray.empty, some 20) := by
  unfold label_Text.f
  rw [if_pos (by omega), valid_no x c hc h, Option.bind_some, if_neg (by simp)]
theorem textB_list (r c : Nat) (hr : r < 16) : (textB r c).data.toList = digs r ++ (if c = 0 then [] else 58 :: LabL.cats c) := by
  unfold textB label_textOf
  rw [dec_digs r hr, List.toList_toArray]
theorem textB_size (r c : Nat) (hr : r < 16) : (textB r c).size ≤ 100 := by
  have h1 := digs_len r
  have h2 := LabL.catsTo_len c 26
  rw [← size_list, textB_list r c hr, List.length_append]
  split
  · simp; omega
  · rw [List.length_cons]; unfold LabL.cats; omega
theorem byte_eq {a b : ByteArray} (h : a.data.toList = b.data.toList) : a = b := ByteArray.ext (Array.toList_inj.1 h)
/-- A label's text is read as it. -/
theorem parse_text (r c : Nat) (hr : r < 16) (hc : c < 67108864) : label_Parse.f (textB r c) = some ((r : Int), (c : Int), none) := by
  have hok : Ok (r : Int) c := ⟨by omega, by omega, hc⟩
  have hsz := textB_size r c hr
  have hl := textB_list r c hr
  have hend : parseOf (r : Int) (textB r c) (some c) = some ((r : Int), (c : Int), none) := by
    simp only [parseOf]
    rw [text_yes _ _ hok, Option.bind_some, if_pos ⟨rfl, by rw [Int.toNat_natCast]⟩]
  unfold label_Parse.f
  by_cases h0 : c = 0
  · rw [if_pos h0, List.append_nil] at hl
    rw [cut_no _ (by rw [hl]; exact digs_no r hr), Option.bind_some, if_pos ⟨by show (textB r c).size ≤ _; omega, by show (0 : Nat) ≤ _; omega⟩]
    dsimp only
    rw [hl, atoi_digs r hr, if_pos ⟨rfl, by show (r : Int) ≤ 15; omega⟩]
    have h1 : LabL.setCats (⟨#[]⟩ : ByteArray).data.toList 0 = some c := by rw [h0]; rfl
    rw [h1, hend]
  · rw [if_neg h0] at hl
    obtain ⟨z1, z2, hz, e1, e2⟩ := cut_at _ (by omega) _ _ hl (digs_no r hr)
    have hs1 : z1.size ≤ 2 := by rw [← size_list, e1]; exact digs_len r
    have hs2 : z2.size ≤ 26 := by rw [← size_list, e2]; exact LabL.catsTo_len c 26
    rw [hz, Option.bind_some, if_pos ⟨by show z1.size ≤ _; omega, by show z2.size ≤ _; omega⟩]
    dsimp only
    rw [e1, e2, atoi_digs r hr, if_pos ⟨rfl, by show (r : Int) ≤ 15; omega⟩, setCats_cats c hc, hend]
theorem setCats_lt : ∀ (l : List UInt8) (c d : Nat), c < 67108864 → LabL.setCats l c = some d → d < 67108864 := by
  intro l
  induction l with
  | nil => intro c d hc h; simp [LabL.setCats] at h; omega
  | cons b l ih =>
    intro c d hc h
    rw [LabL.setCats] at h
    by_cases hb : 97 ≤ b.toNat ∧ b.toNat ≤ 122
    · rw [if_pos hb] at h
      exact ih _ d (LabL.or_lt c (b.toNat - 97) hc (by omega)) h
    · rw [if_neg hb] at h
      cases h
/-- What is read is a label, and its text is what was read; or the error. -/
theorem parse_back (s : ByteArray) (hs : s.size ≤ 140737488355328) : (∃ r c : Nat, r < 16 ∧ c < 67108864 ∧ s = textB r c ∧ label_Parse.f s = some ((r : Int), (c : Int), none)) ∨ label_Parse.f s = some (0, 0, some 3) := by
  obtain ⟨z, hz, h1, h2⟩ : ∃ z : ByteArray × ByteArray × Bool, strings_Cut.f s ⟨#[58]⟩ = some z ∧ z.1.size ≤ 140737488355328 ∧ z.2.1.size ≤ 140737488355328 := by
    rcases parts s.data.toList with h | ⟨p, m, hl, h⟩
    · exact ⟨_, cut_no s h, hs, by show (0 : Nat) ≤ _; omega⟩
    · obtain ⟨z1, z2, hz, e1, e2⟩ := cut_at s hs p m hl h
      have hsz := size_list s
      rw [hl, List.length_append, List.length_cons] at hsz
      exact ⟨_, hz, by rw [← size_list, e1]; omega, by show z2.size ≤ _; rw [← size_list, e2]; omega⟩
  unfold label_Parse.f
  rw [hz, Option.bind_some, if_pos ⟨h1, h2⟩]
  by_cases ha : (Lab.atoiOf z.1.data.toList).2 = true ∧ (Lab.atoiOf z.1.data.toList).1 ≤ 15
  · rw [if_pos ha]
    generalize (Lab.atoiOf z.1.data.toList).1 = n at ha
    cases hc : LabL.setCats z.2.1.data.toList 0 with
    | none => exact .inr rfl
    | some c =>
      have hlt := setCats_lt _ 0 c (by omega) hc
      simp only [parseOf]
      by_cases hok : Ok n c
      · rw [text_yes n c hok, Option.bind_some]
        obtain ⟨r, rfl⟩ := Int.eq_ofNat_of_zero_le hok.1
        have h15 := hok.2.1
        rw [Int.toNat_natCast]
        by_cases ht : textB r c = s
        · rw [if_pos ⟨rfl, ht⟩]
          exact .inl ⟨r, c, by omega, hlt, ht.symm, rfl⟩
        · rw [if_neg (fun h => ht h.2)]
          exact .inr rfl
      · rw [text_no n c (by omega) hok, Option.bind_some, if_neg (by simp)]
        exact .inr rfl
  · rw [if_neg ha]
    exact .inr rfl
theorem sure01 : barbicanlaw01_sure.f = some true := by
  unfold barbicanlaw01_sure.f
  have h0 : (⟨#[50, 58, 98, 100]⟩ : ByteArray) = textB 2 10 := by
    apply byte_eq
    rw [textB_list 2 10 (by omega)]
    decide +kernel
  rw [h0, parse_text 2 10 (by omega) (by omega), Option.bind_some, if_pos (by rfl), if_pos (by rfl)]
  have h1 : label_Compare.f 1 1 2 0 = some 2 := by
    have h := cmp_f 1 2 1 0 (by omega) (by omega)
    exact h
  rw [h1]
  rfl
end LabP
end Go.Proofs.YtckgmbkhdgcldaaDoor.Pure
