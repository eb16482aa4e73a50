/- LatticeReads, plain: the lattice of every text, or the error, is the document's; its text is the text. -/
import Derived.Test.YtgcaalgaellciaaGreatDoorXLarx17
import Derived.Test.YtgcaalgaellciaaGreatDoorXLarx9
import Derived.Test.YtgcaalgaellciaaGreatDoorXLarx15
import Derived.Test.YtgcaalgaellciaaGreatDoorXLarx16
import Derived.Test.YtgcaalgaellciaaGreatDoorXLarx7
import Derived.Test.YtgcaalgaellciaaGreatDoorXLarx5
import Derived.Test.YtgcaalgaellciaaGreatDoorXLarx8
import Derived.Lib.AtoiAllCases
/- Labels, plain: what the document reads of texts. -/
/- A lattice, plain: whether the document makes it, and the text that the document gives it, are the program's. -/
/- A lattice, plain: what it is made of. -/
/- Labels, plain: their texts, and what is read of texts; the document's texts of them. -/
namespace Go.Proofs.YtgcaalgaellciaaGreatDoor.Pure
open Go.RowKit Go.Proofs.YtgcaalgaellciaaGreatDoor.XLar Go.Proofs.YtgcaalgaellciaaGreatDoorW.PrintWords Go.Proofs.YtgcaalgaellciaaGreatDoorW.PrintLast Go.Proofs.YtgcaalgaellciaaGreatDoorW.PrintMore
set_option linter.unusedVariables false
set_option linter.unusedSimpArgs false
namespace LabP
theorem u32_wf {n : Int} (h : (Lit.int .u32 n).wf = true) : 0 ≤ n ∧ n < 4294967296 := by
  simp [Lit.wf, IntKind.min, IntKind.max, IntKind.bits, IntKind.signed] at h
  omega
theorem i64_wf {n : Int} (h : (Lit.int .i64 n).wf = true) : -9223372036854775808 ≤ n ∧ n ≤ 9223372036854775807 := by
  simp [Lit.wf, IntKind.min, IntKind.max, IntKind.bits, IntKind.signed] at h
  omega
theorem wrap64_small (x : Int) (h0 : -9223372036854775808 ≤ x) (h1 : x < 9223372036854775808) : wrap64 x = x := by
  unfold wrap64
  omega
/-- A rank's digits. -/
def digs (r : Nat) : List UInt8 := if r < 10 then [UInt8.ofNat (48 + r)] else [49, UInt8.ofNat (48 + (r - 10))]
theorem dec_digs (r : Nat) (h : r < 16) : Lib.decDigits r = digs r := by
  unfold digs
  by_cases h1 : r < 10
  · rw [if_pos h1, Lib.decDigits_one h1]
  · rw [if_neg h1, Lib.decDigits_two h1 (by omega), show r / 10 = 1 by omega, show r % 10 = r - 10 by omega]
    rfl
theorem atoi_digs (r : Nat) (h : r < 16) : Lab.atoiOf (digs r) = ((r : Int), true) := by
  have h1 : ∀ r : Fin 16, Lib.atoiAll (digs r.val) = .ok (r.val : Int) := by decide +kernel
  unfold Lab.atoiOf
  rw [h1 ⟨r, h⟩]
theorem digs_no (r : Nat) (h : r < 16) : ∀ c ∈ digs r, c ≠ 58 := by
  have h1 : ∀ r : Fin 16, ∀ c ∈ digs r.val, c ≠ 58 := by decide +kernel
  exact h1 ⟨r, h⟩
theorem digs_len (r : Nat) : (digs r).length ≤ 2 := by unfold digs; split <;> simp
theorem index_no (l : List UInt8) (h : ∀ c ∈ l, c ≠ 58) : Lib.indexByte l 58 = -1 := by
  induction l with
  | nil => rfl
  | cons b l ih =>
    have h1 : (b == 58) = false := by simpa using h b (by simp)
    unfold Lib.indexByte
    rw [h1, ih (fun c hc => h c (by simp [hc]))]
    rfl
theorem index_at (l m : List UInt8) (h : ∀ c ∈ l, c ≠ 58) : Lib.indexByte (l ++ 58 :: m) 58 = (l.length : Int) := by
  induction l with
  | nil => rfl
  | cons b l ih =>
    have h1 : (b == 58) = false := by simpa using h b (by simp)
    have h2 := ih (fun c hc => h c (by simp [hc]))
    rw [List.cons_append]
    unfold Lib.indexByte
    rw [h1, h2, if_neg (by simp), if_neg (by rw [beq_iff_eq]; omega), List.length_cons]
    rfl
theorem parts (l : List UInt8) : (∀ c ∈ l, c ≠ 58) ∨ ∃ p m, l = p ++ 58 :: m ∧ ∀ c ∈ p, c ≠ 58 := by
  induction l with
  | nil => exact .inl fun c hc => by cases hc
  | cons b l ih =>
    by_cases hb : b = 58
    · exact .inr ⟨[], l, by rw [hb]; rfl, fun c hc => by cases hc⟩
    · rcases ih with h | ⟨p, m, rfl, h⟩
      · exact .inl fun c hc => by rcases List.mem_cons.1 hc with rfl | hc; exact hb; exact h c hc
      · exact .inr ⟨b :: p, m, rfl, fun c hc => by rcases List.mem_cons.1 hc with rfl | hc; exact hb; exact h c hc⟩
theorem size_list (s : ByteArray) : s.data.toList.length = s.size := rfl
theorem cut_no (s : ByteArray) (h : ∀ c ∈ s.data.toList, c ≠ 58) : strings_Cut.f s ⟨#[58]⟩ = some (s, ⟨#[]⟩, false) := by
  unfold strings_Cut.f stringslite_Cut.f
  rw [show stringslite_Index.f s ⟨#[58]⟩ = some (Lib.indexByte s.data.toList 58) from rfl, index_no _ h, Option.bind_some, if_neg (by omega)]
  rfl
theorem cut_at (s : ByteArray) (hs : s.size ≤ 140737488355328) (l m : List UInt8) (hl : s.data.toList = l ++ 58 :: m) (h : ∀ c ∈ l, c ≠ 58) :
    ∃ z1 z2 : ByteArray, strings_Cut.f s ⟨#[58]⟩ = some (z1, z2, true) ∧ z1.data.toList = l ∧ z2.data.toList = m := by
  have hsz := size_list s
  rw [hl, List.length_append, List.length_cons] at hsz
  refine ⟨s.extract 0 l.length, s.extract (l.length + 1) s.size, ?_, ?_, ?_⟩
  · unfold strings_Cut.f stringslite_Cut.f
    have e1 : wrap64 ((l.length : Int) + ((⟨#[58]⟩ : ByteArray).size : Int)) = ((l.length + 1 : Nat) : Int) := by
      rw [show ((⟨#[58]⟩ : ByteArray).size : Int) = 1 from rfl, wrap64_small _ (by omega) (by omega)]
      omega
    rw [show stringslite_Index.f s ⟨#[58]⟩ = some (Lib.indexByte s.data.toList 58) from rfl, hl, index_at l m h, Option.bind_some, if_pos (by omega), if_pos (by omega), if_pos (by omega), e1, if_pos (by omega), if_pos (by omega), Option.bind_some]
    rfl
  · rw [ByteArray.data_extract, Array.toList_extract, hl]
    simp
  · rw [ByteArray.data_extract, Array.toList_extract, hl]
    simp
    rw [List.take_of_length_le (by omega)]
theorem ofNat_toNat (n : Nat) (h : n < 256) : (UInt8.ofNat n).toNat = n := by
  rw [UInt8.toNat_ofNat']
  omega
theorem low_step (c p : Nat) (h : c.testBit p = true) : c % 2 ^ p ||| 2 ^ p = c % 2 ^ (p + 1) := by
  apply Nat.eq_of_testBit_eq
  intro i
  rw [Nat.testBit_or, Nat.testBit_two_pow, Nat.testBit_mod_two_pow, Nat.testBit_mod_two_pow]
  by_cases h1 : i = p
  · subst h1
    simp [h]
  · have h2 : decide (p = i) = false := by rw [decide_eq_false_iff_not]; omega
    have h3 : decide (i < p + 1) = decide (i < p) := by rw [decide_eq_decide]; omega
    rw [h2, h3, Bool.or_false]
theorem low_skip (c p : Nat) (h : c.testBit p = false) : c % 2 ^ p = c % 2 ^ (p + 1) := by
  apply Nat.eq_of_testBit_eq
  intro i
  rw [Nat.testBit_mod_two_pow, Nat.testBit_mod_two_pow]
  by_cases h1 : i = p
  · subst h1
    simp [h]
  · have h3 : decide (i < p + 1) = decide (i < p) := by rw [decide_eq_decide]; omega
    rw [h3]
theorem setCats_to (c p : Nat) (hp : p ≤ 26) (rest : List UInt8) : LabL.setCats (LabL.catsTo c p ++ rest) 0 = LabL.setCats rest (c % 2 ^ p) := by
  induction p generalizing rest with
  | zero => rw [show LabL.catsTo c 0 = [] from rfl, Nat.pow_zero, Nat.mod_one]; rfl
  | succ p ih =>
    cases h : c.testBit p with
    | false =>
      rw [LabL.catsTo_skip c p 1 (fun i h1 h2 => by rw [show i = p by omega]; exact h), ih (by omega), low_skip c p h]
    | true =>
      rw [LabL.catsTo_hit c p h, List.append_assoc, ih (by omega), List.singleton_append, LabL.setCats, ofNat_toNat _ (by omega), if_pos (by omega), show 97 + p - 97 = p by omega, low_step c p h]
theorem setCats_cats (c : Nat) (hc : c < 67108864) : LabL.setCats (LabL.cats c) 0 = some c := by
  have h := setCats_to c 26 (Nat.le_refl _) []
  rw [List.append_nil] at h
  unfold LabL.cats
  rw [h, LabL.setCats, Nat.mod_eq_of_lt (by have e : (2 : Nat) ^ 26 = 67108864 := by decide +kernel
                                            omega)]
def Ok (x : Int) (c : Nat) : Prop := 0 ≤ x ∧ x ≤ 15 ∧ c < 67108864
theorem valid_yes (x : Int) (c : Nat) (h : Ok x c) : label_Valid.f x (c : Int) = some none := by
  unfold label_Valid.f
  obtain ⟨h0, h1, h2⟩ := h
  rw [if_neg (by omega), if_neg (by omega), if_pos ((LabB.andNot_zero c (by omega)).2 h2)]
theorem valid_no (x : Int) (c : Nat) (hc : c < 4294967296) (h : ¬ Ok x c) : label_Valid.f x (c : Int) = some (some 20) := by
  unfold label_Valid.f
  by_cases h0 : x < 0
  · rw [if_pos h0]
  · rw [if_neg h0]
    by_cases h1 : x > 15
    · rw [if_pos h1]
    · rw [if_neg h1, if_neg]
      intro h2
      exact h ⟨by omega, by omega, (LabB.andNot_zero c hc).1 h2⟩
def textB (r c : Nat) : ByteArray := ⟨(label_textOf r c).toArray⟩
theorem text_yes (x : Int) (c : Nat) (h : Ok x c) : label_Text.f x (c : Int) = some (textB x.toNat c, none) := by
  unfold label_Text.f
  have h2 := h.2.2
  rw [if_pos (by omega), valid_yes x c h, Option.bind_some, if_pos (by rfl), Int.toNat_natCast]
  rfl
theorem text_no (x : Int) (c : Nat) (hc : c < 4294967296) (h : ¬ Ok x c) : label_Text.f x (c : Int) = some (ByteArray.empty, some 20) := by
  unfold label_Text.f
  rw [if_pos (by omega), valid_no x c hc h, Option.bind_some, if_neg (by simp)]
theorem textB_list (r c : Nat) (hr : r < 16) : (textB r c).data.toList = digs r ++ (if c = 0 then [] else 58 :: LabL.cats c) := by
  unfold textB label_textOf
  rw [dec_digs r hr, List.toList_toArray]
theorem textB_size (r c : Nat) (hr : r < 16) : (textB r c).size ≤ 100 := by
  have h1 := digs_len r
  have h2 := LabL.catsTo_len c 26
  rw [← size_list, textB_list r c hr, List.length_append]
  split
  · simp; omega
  · rw [List.length_cons]; unfold LabL.cats; omega
theorem byte_eq {a b : ByteArray} (h : a.data.toList = b.data.toList) : a = b := ByteArray.ext (Array.toList_inj.1 h)
/-- A label's text is read as it. -/
theorem parse_text (r c : Nat) (hr : r < 16) (hc : c < 67108864) : label_Parse.f (textB r c) = some ((r : Int), (c : Int), none) := by
  have hok : Ok (r : Int) c := ⟨by omega, by omega, hc⟩
  have hsz := textB_size r c hr
  have hl := textB_list r c hr
  have hend : parseOf (r : Int) (textB r c) (some c) = some ((r : Int), (c : Int), none) := by
    simp only [parseOf]
    rw [text_yes _ _ hok, Option.bind_some, if_pos ⟨rfl, by rw [Int.toNat_natCast]⟩]
  unfold label_Parse.f
  by_cases h0 : c = 0
  · rw [if_pos h0, List.append_nil] at hl
    rw [cut_no _ (by rw [hl]; exact digs_no r hr), Option.bind_some, if_pos ⟨by show (textB r c).size ≤ _; omega, by show (0 : Nat) ≤ _; omega⟩]
    dsimp only
    rw [hl, atoi_digs r hr, if_pos ⟨rfl, by show (r : Int) ≤ 15; omega⟩]
    have h1 : LabL.setCats (⟨#[]⟩ : ByteArray).data.toList 0 = some c := by rw [h0]; rfl
    rw [h1, hend]
  · rw [if_neg h0] at hl
    obtain ⟨z1, z2, hz, e1, e2⟩ := cut_at _ (by omega) _ _ hl (digs_no r hr)
    have hs1 : z1.size ≤ 2 := by rw [← size_list, e1]; exact digs_len r
    have hs2 : z2.size ≤ 26 := by rw [← size_list, e2]; exact LabL.catsTo_len c 26
    rw [hz, Option.bind_some, if_pos ⟨by show z1.size ≤ _; omega, by show z2.size ≤ _; omega⟩]
    dsimp only
    rw [e1, e2, atoi_digs r hr, if_pos ⟨rfl, by show (r : Int) ≤ 15; omega⟩, setCats_cats c hc, hend]
theorem setCats_lt : ∀ (l : List UInt8) (c d : Nat), c < 67108864 → LabL.setCats l c = some d → d < 67108864 := by
  intro l
  induction l with
  | nil => intro c d hc h; simp [LabL.setCats] at h; omega
  | cons b l ih =>
    intro c d hc h
    rw [LabL.setCats] at h
    by_cases hb : 97 ≤ b.toNat ∧ b.toNat ≤ 122
    · rw [if_pos hb] at h
      exact ih _ d (LabL.or_lt c (b.toNat - 97) hc (by omega)) h
    · rw [if_neg hb] at h
      cases h
/-- What is read is a label, and its text is what was read; or the error. -/
theorem parse_back (s : ByteArray) (hs : s.size ≤ 140737488355328) : (∃ r c : Nat, r < 16 ∧ c < 67108864 ∧ s = textB r c ∧ label_Parse.f s = some ((r : Int), (c : Int), none)) ∨ label_Parse.f s = some (0, 0, some 3) := by
  obtain ⟨z, hz, h1, h2⟩ : ∃ z : ByteArray × ByteArray × Bool, strings_Cut.f s ⟨#[58]⟩ = some z ∧ z.1.size ≤ 140737488355328 ∧ z.2.1.size ≤ 140737488355328 := by
    rcases parts s.data.toList with h | ⟨p, m, hl, h⟩
    · exact ⟨_, cut_no s h, hs, by show (0 : Nat) ≤ _; omega⟩
    · obtain ⟨z1, z2, hz, e1, e2⟩ := cut_at s hs p m hl h
      have hsz := size_list s
      rw [hl, List.length_append, List.length_cons] at hsz
      exact ⟨_, hz, by rw [← size_list, e1]; omega, by show z2.size ≤ _; rw [← size_list, e2]; omega⟩
  unfold label_Parse.f
  rw [hz, Option.bind_some, if_pos ⟨h1, h2⟩]
  by_cases ha : (Lab.atoiOf z.1.data.toList).2 = true ∧ (Lab.atoiOf z.1.data.toList).1 ≤ 15
  · rw [if_pos ha]
    generalize (Lab.atoiOf z.1.data.toList).1 = n at ha
    cases hc : LabL.setCats z.2.1.data.toList 0 with
    | none => exact .inr rfl
    | some c =>
      have hlt := setCats_lt _ 0 c (by omega) hc
      simp only [parseOf]
      by_cases hok : Ok n c
      · rw [text_yes n c hok, Option.bind_some]
        obtain ⟨r, rfl⟩ := Int.eq_ofNat_of_zero_le hok.1
        have h15 := hok.2.1
        rw [Int.toNat_natCast]
        by_cases ht : textB r c = s
        · rw [if_pos ⟨rfl, ht⟩]
          exact .inl ⟨r, c, by omega, hlt, ht.symm, rfl⟩
        · rw [if_neg (fun h => ht h.2)]
          exact .inr rfl
      · rw [text_no n c (by omega) hok, Option.bind_some, if_neg (by simp)]
        exact .inr rfl
  · rw [if_neg ha]
    exact .inr rfl
theorem has_f (r : Int) (c : Nat) (hc : c < 4294967296) (i : Nat) (hi : i < 32) : barbicanref01_Has.f r (c : Int) (i : Int) = some (c.testBit i) := by
  unfold barbicanref01_Has.f
  have e1 : IntKind.u64.wrap (i : Int) = (i : Int) := by rw [IntKind.wrap_u64]; omega
  have e2 : shr .u32 (c : Int) (i : Int) = ((c / 2 ^ i : Nat) : Int) := by
    unfold shr
    rw [Int.toNat_natCast, show IntKind.u32.bits = 32 from rfl, Nat.min_eq_left (by omega)]
    rw [Int.natCast_ediv, Int.natCast_pow]
    rfl
  have hlt : c / 2 ^ i ≤ c := Nat.div_le_self _ _
  rw [e1, if_pos (by omega), e2, show ((1 : Int)) = ((1 : Nat) : Int) from rfl, u32_and_nat _ 1 (by omega) (by omega), Nat.and_one_is_mod]
  congr 1
  rw [Nat.testBit_eq_decide_div_mod_eq, Bool.eq_iff_iff, beq_iff_eq, decide_eq_true_iff]
  omega
theorem step64 (i : Nat) (h : i < 9223372036854775000) : wrap64 ((i : Int) + 1) = ((i + 1 : Nat) : Int) := by rw [wrap64_small _ (by omega) (by omega)]; omega
theorem rvalid_yes (x : Int) (c : Nat) (hc : c < 67108864) (d : Nat) : ∀ k i : Nat, i + d = 32 → 26 ≤ i → d < k →
    barbicanref01_Valid.l0 k (i : Int) x (c : Int) = some (if x < 0 then 20 else if x > 15 then 20 else 0) := by
  induction d with
  | zero =>
    intro k i hi hi2 hk
    obtain ⟨k, rfl⟩ : ∃ q, k = q + 1 := ⟨k - 1, by omega⟩
    simp only [barbicanref01_Valid.l0]
    rw [if_neg (by omega)]
    split
    · rfl
    · split <;> rfl
  | succ d ih =>
    intro k i hi hi2 hk
    obtain ⟨k, rfl⟩ : ∃ q, k = q + 1 := ⟨k - 1, by omega⟩
    have hr := ih k (i + 1) (by omega) (by omega) (by omega)
    have hb : c.testBit i = false := Nat.testBit_lt_two_pow (Nat.lt_of_lt_of_le (show c < 2 ^ 26 by have e : (2 : Nat) ^ 26 = 67108864 := by decide +kernel
                                                                                                    omega) (Nat.pow_le_pow_right (by decide) hi2))
    simp only [barbicanref01_Valid.l0]
    rw [if_pos (by omega), has_f x c (by omega) i (by omega), Option.bind_some, hb, if_neg (by decide), step64 i (by omega), hr]
theorem rvalid_no (x : Int) (c : Nat) (hc : c < 4294967296) (j : Nat) (hj : j < 32) (hb : c.testBit j = true) (d : Nat) : ∀ k i : Nat, i + d = j → d < k →
    barbicanref01_Valid.l0 k (i : Int) x (c : Int) = some 20 := by
  induction d with
  | zero =>
    intro k i hi hk
    obtain ⟨k, rfl⟩ : ∃ q, k = q + 1 := ⟨k - 1, by omega⟩
    obtain rfl : i = j := by omega
    simp only [barbicanref01_Valid.l0]
    rw [if_pos (by omega), has_f x c hc i hj, Option.bind_some, if_pos hb]
  | succ d ih =>
    intro k i hi hk
    obtain ⟨k, rfl⟩ : ∃ q, k = q + 1 := ⟨k - 1, by omega⟩
    have hr := ih k (i + 1) (by omega) (by omega)
    simp only [barbicanref01_Valid.l0]
    rw [if_pos (by omega), has_f x c hc i (by omega), Option.bind_some, step64 i (by omega), hr]
    split <;> rfl
theorem rvalid_ok (k : Nat) (x : Int) (c : Nat) (hk : 40 ≤ k) (h : Ok x c) : barbicanref01_Valid.f k x (c : Int) = some 0 := by
  obtain ⟨h0, h1, h2⟩ := h
  unfold barbicanref01_Valid.f
  have h := rvalid_yes x c h2 6 k 26 (by omega) (by omega) (by omega)
  rw [if_neg (by omega), if_neg (by omega)] at h
  exact h
theorem rvalid_bad (k : Nat) (x : Int) (c : Nat) (hc : c < 4294967296) (hk : 40 ≤ k) (h : ¬ Ok x c) : barbicanref01_Valid.f k x (c : Int) = some 20 := by
  unfold barbicanref01_Valid.f
  by_cases h2 : c < 67108864
  · have h3 := rvalid_yes x c h2 6 k 26 (by omega) (by omega) (by omega)
    by_cases h0 : x < 0
    · rw [if_pos h0] at h3
      exact h3
    · rw [if_neg h0] at h3
      by_cases h1 : x > 15
      · rw [if_pos h1] at h3
        exact h3
      · exact absurd ⟨by omega, by omega, h2⟩ h
  · have e26 : (2 : Nat) ^ 26 = 67108864 := by decide +kernel
    obtain ⟨j, hj, hb⟩ := Nat.exists_ge_and_testBit_of_ge_two_pow (x := c) (n := 26) (by omega)
    clear e26
    have hlt : j < 32 := by
      rcases Nat.lt_or_ge j 32 with h | h
      · exact h
      · exfalso
        rw [Nat.testBit_lt_two_pow (Nat.lt_of_lt_of_le (show c < 2 ^ 32 by have e : (2 : Nat) ^ 32 = 4294967296 := by decide +kernel
                                                                           omega) (Nat.pow_le_pow_right (by decide) h))] at hb
        cases hb
    exact rvalid_no x c hc j hlt hb (j - 26) k 26 (by omega) (by omega)
theorem digit_at (d : Nat) (h : d < 10) : ((⟨#[48, 49, 50, 51, 52, 53, 54, 55, 56, 57]⟩ : ByteArray).extract d (d + 1)).data.toList = [UInt8.ofNat (48 + d)] := by
  have h1 : ∀ d : Fin 10, ((⟨#[48, 49, 50, 51, 52, 53, 54, 55, 56, 57]⟩ : ByteArray).extract d.val (d.val + 1)).data.toList = [UInt8.ofNat (48 + d.val)] := by decide +kernel
  exact h1 ⟨d, h⟩
theorem letter_at (d : Nat) (h : d < 26) : ((⟨#[97, 98, 99, 100, 101, 102, 103, 104, 105, 106, 107, 108, 109, 110, 111, 112, 113, 114, 115, 116, 117, 118, 119, 120, 121, 122]⟩ : ByteArray).extract d (d + 1)).data.toList = [UInt8.ofNat (97 + d)] := by
  have h1 : ∀ d : Fin 26, ((⟨#[97, 98, 99, 100, 101, 102, 103, 104, 105, 106, 107, 108, 109, 110, 111, 112, 113, 114, 115, 116, 117, 118, 119, 120, 121, 122]⟩ : ByteArray).extract d.val (d.val + 1)).data.toList = [UInt8.ofNat (97 + d.val)] := by decide +kernel
  exact h1 ⟨d, h⟩
theorem cat_list (a b : ByteArray) : (a ++ b).data.toList = a.data.toList ++ b.data.toList := by simp
theorem cats_nil (c : Nat) (hc : c < 67108864) : LabL.cats c = [] ↔ c = 0 := by
  constructor
  · intro h
    have h1 := setCats_cats c hc
    rw [h, LabL.setCats] at h1
    simpa using h1.symm
  · rintro rfl
    decide +kernel
theorem rtext_l (r : Nat) (hr : r < 16) (c : Nat) (hc : c < 67108864) (d : Nat) : ∀ (k p : Nat) (s m : ByteArray), p + d = 26 → d < k →
    s.data.toList = digs r ++ (if LabL.catsTo c p = [] then [] else 58 :: LabL.catsTo c p) → m.data.toList = (if LabL.catsTo c p = [] then [58] else []) →
    barbicanref01_Text.l0 k s m (p : Int) (r : Int) (c : Int) = some (textB r c, 0) := by
  induction d with
  | zero =>
    intro k p s m hp hk hs hm
    obtain ⟨k, rfl⟩ : ∃ q, k = q + 1 := ⟨k - 1, by omega⟩
    obtain rfl : p = 26 := by omega
    simp only [barbicanref01_Text.l0]
    rw [if_neg (by omega)]
    have h1 : s = textB r c := by
      apply byte_eq
      rw [textB_list r c hr, hs]
      have h2 := cats_nil c hc
      unfold LabL.cats at h2 ⊢
      by_cases h0 : c = 0
      · rw [if_pos h0, if_pos (h2.2 h0)]
      · rw [if_neg h0, if_neg (fun h => h0 (h2.1 h))]
    rw [h1]
  | succ d ih =>
    intro k p s m hp hk hs hm
    obtain ⟨k, rfl⟩ : ∃ q, k = q + 1 := ⟨k - 1, by omega⟩
    have hcl := LabL.catsTo_len c p
    have hdl := digs_len r
    have hss : s.size ≤ 29 := by
      rw [← size_list, hs, List.length_append]
      split
      · simp; omega
      · rw [List.length_cons]; omega
    have hms : m.size ≤ 1 := by
      rw [← size_list, hm]
      split <;> simp
    simp only [barbicanref01_Text.l0]
    rw [if_pos (by omega), has_f (r : Int) c (by omega) p (by omega), Option.bind_some, step64 p (by omega)]
    cases hb : c.testBit p with
    | false =>
      have hsk := LabL.catsTo_skip c p 1 (fun i h1 h2 => by rw [show i = p by omega]; exact hb)
      rw [if_neg (by decide)]
      exact ih k (p + 1) s m (by omega) (by omega) (by rw [hsk]; exact hs) (by rw [hsk]; exact hm)
    | true =>
      have hh := LabL.catsTo_hit c p hb
      have hle := letter_at p (by omega)
      have hne : LabL.catsTo c (p + 1) ≠ [] := by rw [hh]; simp
      rw [if_pos rfl, if_pos (by omega), if_pos (by omega), if_pos (by omega), if_pos (by omega), Int.toNat_natCast, Int.toNat_natCast]
      have hsz : (s ++ m).size ≤ 30 := by rw [← size_list, cat_list, List.length_append, size_list, size_list]; omega
      have hl1 : ((⟨#[97, 98, 99, 100, 101, 102, 103, 104, 105, 106, 107, 108, 109, 110, 111, 112, 113, 114, 115, 116, 117, 118, 119, 120, 121, 122]⟩ : ByteArray).extract p (p + 1)).size = 1 := by rw [← size_list, hle]; rfl
      rw [if_pos (by omega)]
      refine ih k (p + 1) _ _ (by omega) (by omega) ?_ ?_
      · rw [cat_list, cat_list, hle, hs, hm, if_neg hne, hh]
        by_cases h0 : LabL.catsTo c p = []
        · rw [if_pos h0, if_pos h0, h0]; simp
        · rw [if_neg h0, if_neg h0]; simp
      · rw [if_neg hne]
theorem rtext_ok (k : Nat) (x : Int) (c : Nat) (hk : 50 ≤ k) (h : Ok x c) : barbicanref01_Text.f k x (c : Int) = some (textB x.toNat c, 0) := by
  have hv := rvalid_ok k x c (by omega) h
  obtain ⟨r, rfl⟩ := Int.eq_ofNat_of_zero_le h.1
  have h15 := h.2.1
  have hc := h.2.2
  have hr : r < 16 := by omega
  obtain ⟨q, rfl⟩ : ∃ q, k = q + 1 := ⟨k - 1, by omega⟩
  unfold barbicanref01_Text.f
  have e1 : Int.tmod (r : Int) 10 = ((r % 10 : Nat) : Int) := by rw [Int.tmod_eq_emod_of_nonneg (by omega)]; omega
  have hd := digit_at (r % 10) (by omega)
  have hds : ((⟨#[48, 49, 50, 51, 52, 53, 54, 55, 56, 57]⟩ : ByteArray).extract (r % 10) (r % 10 + 1)).size = 1 := by rw [← size_list, hd]; rfl
  rw [hv, Option.bind_some, if_pos rfl, e1, step64 (r % 10) (by omega), if_pos (by omega), if_pos (by omega), if_pos (by omega), Int.toNat_natCast, Int.toNat_natCast, Int.toNat_natCast]
  have h0 : LabL.catsTo c 0 = [] := rfl
  by_cases h9 : (r : Int) > 9
  · rw [if_pos h9, if_pos (by omega)]
    simp only [barbicanref01_Text.j0]
    refine rtext_l r hr c hc 26 q 0 _ _ (by omega) (by omega) ?_ ?_
    · rw [if_pos h0, cat_list, hd]
      unfold digs
      rw [if_neg (by omega), show r % 10 = r - 10 by omega]
      simp
    · rw [if_pos h0]
  · rw [if_neg h9]
    simp only [barbicanref01_Text.j0]
    refine rtext_l r hr c hc 26 q 0 _ _ (by omega) (by omega) ?_ ?_
    · rw [if_pos h0, hd]
      unfold digs
      rw [if_pos (by omega), show r % 10 = r by omega]
      simp
    · rw [if_pos h0]
theorem rtext_bad (k : Nat) (x : Int) (c : Nat) (hc : c < 4294967296) (hk : 50 ≤ k) (h : ¬ Ok x c) : barbicanref01_Text.f k x (c : Int) = some (⟨#[]⟩, 20) := by
  unfold barbicanref01_Text.f
  rw [rvalid_bad k x c hc (by omega) h, Option.bind_some, if_neg (by decide)]
end LabP
end Go.Proofs.YtgcaalgaellciaaGreatDoor.Pure
namespace Go.Proofs.YtgcaalgaellciaaGreatDoor.Pure
open Go.RowKit Go.Proofs.YtgcaalgaellciaaGreatDoor.XLar Go.Proofs.YtgcaalgaellciaaGreatDoorW.PrintWords Go.Proofs.YtgcaalgaellciaaGreatDoorW.PrintLast Go.Proofs.YtgcaalgaellciaaGreatDoorW.PrintMore
set_option linter.unusedVariables false
set_option linter.unusedSimpArgs false
namespace LatA
abbrev L := S37
/-- From some fuel on, true. -/
def Ev (F : Nat → Option Bool) : Prop := ∃ k0, ∀ k, k0 ≤ k → F k = some true
theorem Ev.of {F G : Nat → Option Bool} (h : ∀ k, F k = G k) (hG : Ev G) : Ev F := by
  obtain ⟨k0, hk⟩ := hG
  exact ⟨k0, fun k h1 => (h k).trans (hk k h1)⟩
theorem Ev.succ {F G : Nat → Option Bool} (h : ∀ k, F (k + 1) = G k) (hG : Ev G) : Ev F := by
  obtain ⟨k0, hk⟩ := hG
  refine ⟨k0 + 1, fun k h1 => ?_⟩
  obtain ⟨q, rfl⟩ : ∃ q, k = q + 1 := ⟨k - 1, by omega⟩
  exact (h q).trans (hk q (by omega))
theorem Ev.true_ : Ev fun _ => some true := ⟨0, fun _ _ => rfl⟩
theorem Ev.ex {F : Nat → Option Bool} (h : Ev F) : ∃ k, F k = some true := by
  obtain ⟨k0, hk⟩ := h
  exact ⟨k0, hk k0 (Nat.le_refl _)⟩
theorem sure10 : barbicanlaw02_sure.f 10 = some true := by kernel_rfl
theorem sure_ev : Ev barbicanlaw02_sure.f := by
  refine ⟨10, fun k hk => ?_⟩
  induction k with
  | zero => omega
  | succ k ih =>
    by_cases h : k + 1 = 10
    · rw [h]; exact sure10
    · exact barbicanlaw02_sure.mono k _ (ih (by omega))
theorem u32_wf {n : Int} (h : (Lit.int .u32 n).wf = true) : 0 ≤ n ∧ n < 4294967296 := by
  simp [Lit.wf, IntKind.min, IntKind.max, IntKind.bits, IntKind.signed] at h
  omega
theorem wrap64_small (x : Int) (h0 : -9223372036854775808 ≤ x) (h1 : x < 9223372036854775808) : wrap64 x = x := by
  unfold wrap64
  omega
/-- A label's categories as a number. -/
def ct (x : L) : Nat := x.f1.toNat
def U (x : L) : Prop := 0 ≤ x.f1 ∧ x.f1 < 4294967296
theorem U.ct {x : L} (h : U x) : x.f1 = ((ct x : Nat) : Int) ∧ LatA.ct x < 4294967296 := by
  have h1 := h.1
  have h2 := h.2
  unfold LatA.ct
  omega
/-- The label at a place. -/
def at_ (ls : List L) (i : Nat) : L := ls.getD i z37
theorem at_mem (ls : List L) (i : Nat) (h : i < ls.length) : at_ ls i ∈ ls := by
  unfold at_
  rw [List.getD_eq_getElem?_getD, List.getElem?_eq_getElem h]
  exact List.getElem_mem h
theorem rd_at (ls : List L) (i : Nat) : rd_T37 ls (i : Int) = at_ ls i := by
  unfold rd_T37 at_
  rw [Int.toNat_natCast]
/-- Labels that a lattice is made of: few, each once. -/
structure Ok (ls : List L) : Prop where
  u : ∀ x ∈ ls, U x
  few : ls.length ≤ 16
  once : ∀ i j, i < ls.length → j < ls.length → at_ ls i = at_ ls j → i = j
/-- From some fuel on, this. -/
def EvV {α : Type} (F : Nat → Option α) (a : α) : Prop := ∃ k0, ∀ k, k0 ≤ k → F k = some a
theorem EvV.of {α : Type} {F G : Nat → Option α} {a : α} (h : ∀ k, F k = G k) (hG : EvV G a) : EvV F a := by
  obtain ⟨k0, hk⟩ := hG
  exact ⟨k0, fun k h1 => (h k).trans (hk k h1)⟩
theorem EvV.succ {α : Type} {F G : Nat → Option α} {a : α} (h : ∀ k, F (k + 1) = G k) (hG : EvV G a) : EvV F a := by
  obtain ⟨k0, hk⟩ := hG
  refine ⟨k0 + 1, fun k h1 => ?_⟩
  obtain ⟨q, rfl⟩ : ∃ q, k = q + 1 := ⟨k - 1, by omega⟩
  exact (h q).trans (hk q (by omega))
theorem EvV.bind {α β : Type} {F : Nat → Option α} {H : Nat → α → Option β} {a : α} {b : β} (hF : EvV F a) (hH : EvV (fun k => H k a) b) : EvV (fun k => (F k).bind (H k)) b := by
  obtain ⟨k0, h0⟩ := hF
  obtain ⟨k1, h1⟩ := hH
  refine ⟨max k0 k1, fun k hk => ?_⟩
  show (F k).bind (H k) = _
  rw [h0 k (by omega), Option.bind_some]
  exact h1 k (by omega)
theorem EvV.const {α : Type} (a : α) : EvV (fun _ => some a) a := ⟨0, fun _ _ => rfl⟩
theorem Ev.v {F : Nat → Option Bool} (h : Ev F) : EvV F true := h
theorem EvV.ev {F : Nat → Option Bool} (h : EvV F true) : Ev F := h
theorem rdT_mem (ls : List L) (i : Int) (h0 : 0 ≤ i) (h1 : i < ls.length) : rd_T37 ls i ∈ ls := by
  obtain ⟨q, rfl⟩ := Int.eq_ofNat_of_zero_le h0
  rw [rd_at]
  exact at_mem ls q (by omega)
theorem wr1' (i : Nat) (h : i < 9223372036854775807) : wrap64 ((i : Int) + 1) = ((i + 1 : Nat) : Int) := by
  rw [wrap64_small _ (by omega) (by omega)]
  omega
theorem dup_at : ∀ (l pre : List L), latDup pre l = false → (∀ i, i < l.length → ∀ y ∈ pre, y ≠ at_ l i) ∧ ∀ i j, i < j → j < l.length → at_ l i ≠ at_ l j
  | [], pre, _ => ⟨fun i hi => by simp at hi, fun i j _ hj => by simp at hj⟩
  | x :: l, pre, h => by
    have h1 : (pre.any (fun y => latSame y x) || latDup (pre ++ [x]) l) = false := h
    rw [Bool.or_eq_false_iff] at h1
    obtain ⟨h2, h3⟩ := dup_at l (pre ++ [x]) h1.2
    have hx : ∀ y ∈ pre, y ≠ x := fun y hy e => by
      have := List.any_eq_false.1 h1.1 y hy
      exact this ((latSame_iff y x).2 e)
    constructor
    · intro i hi y hy
      cases i with
      | zero => exact hx y hy
      | succ i => exact h2 i (by simpa using hi) y (List.mem_append_left _ hy)
    · intro i j hij hj
      cases j with
      | zero => omega
      | succ j =>
        cases i with
        | zero => exact h2 j (by simpa using hj) x (by simp)
        | succ i => exact h3 i j (by omega) (by simpa using hj)
/-- What a new lattice's labels are. -/
theorem new_ok {ls : List L} (hu : ∀ x ∈ ls, U x) (h : latNew ls = none) : ls ≠ [] ∧ Ok ls ∧ (∀ x ∈ ls, 0 ≤ x.f0 ∧ x.f0 ≤ 15 ∧ label_Valid.f x.f0 x.f1 = some none) := by
  unfold latNew at h
  by_cases h1 : ls = []
  · rw [if_pos h1] at h; cases h
  rw [if_neg h1] at h
  by_cases h2 : ls.length > 16
  · rw [if_pos h2] at h; cases h
  rw [if_neg h2] at h
  by_cases h3 : latBad ls = true
  · rw [if_pos h3] at h; cases h
  rw [if_neg h3] at h
  by_cases h4 : latDup [] ls = true
  · rw [if_pos h4] at h; cases h
  have h5 := (dup_at ls [] (by simpa using h4)).2
  have hv : ∀ x ∈ ls, label_Valid.f x.f0 x.f1 = some none := fun x hx => Classical.byContradiction fun hn => h3 (List.any_eq_true.2 ⟨x, hx, by simpa using hn⟩)
  refine ⟨h1, ⟨hu, by omega, fun i j hi hj e => ?_⟩, fun x hx => ?_⟩
  · rcases Nat.lt_trichotomy i j with hlt | heq | hlt
    · exact absurd e (h5 i j hlt hj)
    · exact heq
    · exact absurd e.symm (h5 j i hlt hi)
  · have h6 := hv x hx
    refine ⟨?_, ?_, h6⟩
    all_goals
      unfold label_Valid.f at h6
      split at h6
      · simp at h6
      · split at h6
        · simp at h6
        · omega
theorem u32_f {ls : List L} (hu : ∀ x ∈ ls, U x) : latU32 ls = true := List.all_eq_true.2 fun x hx => decide_eq_true (hu x hx)
theorem new_f {ls : List L} (hu : ∀ x ∈ ls, U x) : lattice_New.f ls = some (latMade ls, latNew ls) := by
  unfold lattice_New.f
  rw [if_pos (u32_f hu)]
end LatA
end Go.Proofs.YtgcaalgaellciaaGreatDoor.Pure
namespace Go.Proofs.YtgcaalgaellciaaGreatDoor.Pure
open Go.RowKit Go.Proofs.YtgcaalgaellciaaGreatDoor.XLar Go.Proofs.YtgcaalgaellciaaGreatDoorW.PrintWords Go.Proofs.YtgcaalgaellciaaGreatDoorW.PrintLast Go.Proofs.YtgcaalgaellciaaGreatDoorW.PrintMore
set_option linter.unusedVariables false
set_option linter.unusedSimpArgs false
namespace LatA
theorem bind_id {α : Type} (o : Option α) : (o.bind fun t => some t) = o := by cases o <;> rfl
theorem new_num {l0 : List L} {e : Int} (h : latNew l0 = some e) : e ≠ 0 := by
  unfold latNew at h
  split at h
  · injection h; omega
  · split at h
    · injection h; omega
    · split at h
      · injection h; omega
      · split at h
        · injection h; omega
        · cases h
theorem valid_ok {x : L} (hx : U x) (h : label_Valid.f x.f0 x.f1 = some none) : LabP.Ok x.f0 (ct x) := by
  obtain ⟨h1, h2⟩ := hx.ct
  refine Classical.byContradiction fun hn => ?_
  have h3 := LabP.valid_no _ _ h2 hn
  rw [← h1, h] at h3
  cases h3
theorem drop_at (ls : List L) (i : Nat) (h : i < ls.length) : ls.drop i = at_ ls i :: ls.drop (i + 1) := by
  rw [List.drop_eq_getElem_cons h]
  unfold at_
  rw [List.getD_eq_getElem?_getD, List.getElem?_eq_getElem h]
  rfl
theorem take_at (ls : List L) (i : Nat) (h : i < ls.length) : ls.take (i + 1) = ls.take i ++ [at_ ls i] := by
  rw [List.take_add_one, List.getElem?_eq_getElem h]
  unfold at_
  rw [List.getD_eq_getElem?_getD, List.getElem?_eq_getElem h]
  rfl
theorem rvalid_ev (x : L) (hx : U x) : EvV (fun k => barbicanref01_Valid.f k x.f0 x.f1) (if label_Valid.f x.f0 x.f1 = some none then 0 else 20) := by
  obtain ⟨h1, h2⟩ := hx.ct
  refine ⟨40, fun k hk => ?_⟩
  show barbicanref01_Valid.f k x.f0 x.f1 = _
  rw [h1]
  by_cases h : LabP.Ok x.f0 (ct x)
  · rw [LabP.rvalid_ok k _ _ hk h, LabP.valid_yes _ _ h, if_pos rfl]
  · rw [LabP.rvalid_bad k _ _ h2 hk h, LabP.valid_no _ _ h2 h, if_neg (by simp)]
theorem rnew_l0 {ls : List L} (hu : ∀ x ∈ ls, U x) (hf : ls.length ≤ 16) (v : Int) (hn : EvV (fun k => barbicanref02_New.l1 k ls 0) v) : ∀ (d i : Nat), i + d = ls.length → EvV (fun k => barbicanref02_New.l0 k ls (i : Int)) (if latBad (ls.drop i) = true then 20 else v)
  | 0, i, hi => by
    rw [List.drop_eq_nil_of_le (by omega)]
    refine EvV.succ (fun k => ?_) hn
    simp only [barbicanref02_New.l0]
    rw [if_neg (by omega)]
  | d + 1, i, hi => by
    have ih := rnew_l0 hu hf v hn d (i + 1) (by omega)
    have hm := at_mem ls i (by omega)
    refine EvV.succ (fun k => by simp only [barbicanref02_New.l0]; rw [if_pos (by omega), if_pos (by omega), rd_at, wr1' i (by omega)]) (EvV.bind (rvalid_ev _ (hu _ hm)) ?_)
    by_cases hv : label_Valid.f (at_ ls i).f0 (at_ ls i).f1 = some none
    · have e : latBad (ls.drop i) = latBad (ls.drop (i + 1)) := by
        rw [drop_at ls i (by omega)]
        unfold latBad
        rw [List.any_cons, decide_eq_false (fun h => h hv), Bool.false_or]
      rw [if_pos hv, e]
      refine EvV.of (fun k => ?_) ih
      show (if (0 : Int) = 0 then _ else _) = _
      rw [if_pos rfl]
    · have e : latBad (ls.drop i) = true := by
        rw [drop_at ls i (by omega)]
        unfold latBad
        rw [List.any_cons, decide_eq_true hv, Bool.true_or]
      rw [if_neg hv, if_pos e]
      refine EvV.of (fun k => ?_) (EvV.const _)
      show (if (20 : Int) = 0 then _ else _) = _
      rw [if_neg (by omega)]
theorem rnew_l2 {ls : List L} (hf : ls.length ≤ 16) (i : Nat) (hi : i < ls.length) (v : Int) (hn : EvV (fun k => barbicanref02_New.l1 k ls ((i + 1 : Nat) : Int)) v) : ∀ (d j : Nat), j + d = i → EvV (fun k => barbicanref02_New.l2 k ls (i : Int) (j : Int)) (if (((ls.take i).drop j).any fun y => latSame y (at_ ls i)) = true then 9 else v)
  | 0, j, hj => by
    rw [List.drop_eq_nil_of_le (by rw [List.length_take]; omega)]
    refine EvV.succ (fun k => ?_) hn
    simp only [barbicanref02_New.l2]
    rw [if_neg (by omega), wr1' i (by omega)]
  | d + 1, j, hj => by
    have ih := rnew_l2 hf i hi v hn d (j + 1) (by omega)
    have hd : (ls.take i).drop j = at_ ls j :: (ls.take i).drop (j + 1) := by
      have hl : j < (ls.take i).length := by rw [List.length_take]; omega
      rw [List.drop_eq_getElem_cons hl]
      unfold at_
      rw [List.getElem_take, List.getD_eq_getElem?_getD, List.getElem?_eq_getElem (by omega)]
      rfl
    rw [hd, List.any_cons]
    cases hs : latSame (at_ ls j) (at_ ls i) with
    | true =>
      refine EvV.succ (G := fun _ => some 9) (fun k => ?_) (EvV.const _)
      simp only [barbicanref02_New.l2]
      rw [if_pos (by omega), if_pos (by omega), if_pos (by omega), if_pos (by omega), if_pos (by omega), rd_at, rd_at]
      exact if_pos hs
    | false =>
      rw [Bool.false_or]
      refine EvV.succ (fun k => ?_) ih
      simp only [barbicanref02_New.l2]
      rw [if_pos (by omega), if_pos (by omega), if_pos (by omega), if_pos (by omega), if_pos (by omega), rd_at, rd_at, wr1' j (by omega)]
      exact if_neg (fun h => by rw [show latSame (at_ ls j) (at_ ls i) = true from h] at hs; cases hs)
theorem rnew_l1 {ls : List L} (hf : ls.length ≤ 16) : ∀ (d i : Nat), i + d = ls.length → EvV (fun k => barbicanref02_New.l1 k ls (i : Int)) (if latDup (ls.take i) (ls.drop i) = true then 9 else 0)
  | 0, i, hi => by
    rw [List.drop_eq_nil_of_le (by omega)]
    refine EvV.succ (G := fun _ => some 0) (fun k => ?_) (EvV.const _)
    simp only [barbicanref02_New.l1]
    rw [if_neg (by omega)]
  | d + 1, i, hi => by
    have ih := rnew_l1 hf d (i + 1) (by omega)
    have h2 := rnew_l2 hf i (by omega) _ ih i 0 (Nat.zero_add _)
    have e : (if latDup (ls.take i) (ls.drop i) = true then (9 : Int) else 0) = if (((ls.take i).drop 0).any fun y => latSame y (at_ ls i)) = true then 9 else if latDup (ls.take (i + 1)) (ls.drop (i + 1)) = true then 9 else 0 := by
      rw [drop_at ls i (by omega), latDup, List.drop_zero, take_at ls i (by omega)]
      cases ((ls.take i).any fun y => latSame y (at_ ls i)) <;> simp
    rw [e]
    refine EvV.succ (fun k => ?_) h2
    simp only [barbicanref02_New.l1]
    rw [if_pos (by omega)]
    rfl
theorem rnew_f {ls : List L} (hu : ∀ x ∈ ls, U x) : EvV (fun k => barbicanref02_New.f k ls) ((latNew ls).getD 0) := by
  unfold latNew
  by_cases h0 : ls = []
  · subst h0
    exact EvV.of (fun k => rfl) (EvV.const _)
  · have hl : ls.length ≠ 0 := fun h => h0 (List.length_eq_zero_iff.1 h)
    rw [if_neg h0]
    by_cases h1 : ls.length > 16
    · rw [if_pos h1]
      exact EvV.of (fun k => by unfold barbicanref02_New.f; rw [if_neg (show ¬ (ls.length : Int) = 0 by omega), if_pos (show (ls.length : Int) > 16 by omega)]; rfl) (EvV.const _)
    · rw [if_neg h1]
      have h2 := rnew_l1 (ls := ls) (by omega) ls.length 0 (Nat.zero_add _)
      have h3 := rnew_l0 hu (by omega) _ h2 ls.length 0 (Nat.zero_add _)
      rw [List.drop_zero, List.take_zero] at h3
      have e : (if latBad ls = true then some 20 else if latDup [] ls = true then some 9 else none).getD 0 = if latBad ls = true then (20 : Int) else if latDup [] ls = true then 9 else 0 := by
        split
        · rfl
        · split <;> rfl
      rw [e]
      exact EvV.of (fun k => by unfold barbicanref02_New.f; rw [if_neg (show ¬ (ls.length : Int) = 0 by omega), if_neg (show ¬ (ls.length : Int) > 16 by omega)]; rfl) h3
/-- A label's text, and those of all. -/
def tx (x : L) : List UInt8 := (LabP.textB x.f0.toNat (ct x)).data.toList
def txs (l : List L) : List (List UInt8) := l.map tx
theorem tx_len (x : L) (h : LabP.Ok x.f0 (ct x)) : (tx x).length ≤ 100 := by
  have h1 := h.1
  have h2 := h.2.1
  exact LabP.textB_size _ _ (by omega)
theorem join_snoc (l : List (List UInt8)) (t : List UInt8) (hl : l ≠ []) : Lib.join (l ++ [t]) [32] = Lib.join l [32] ++ [32] ++ t := by
  cases l with
  | nil => exact absurd rfl hl
  | cons x l => rw [List.cons_append, Lib.join_cons, Lib.join_cons, Lib.joinTail, Lib.joinTail, List.map_append, List.flatten_append]; simp
theorem txs_len : ∀ (l : List L), (∀ x ∈ l, LabP.Ok x.f0 (ct x)) → (Lib.join (txs l) [32]).length ≤ 101 * l.length
  | [], _ => by simp [txs, Lib.join]
  | x :: l, h => by
    have e : Lib.join (txs (x :: l)) [32] = tx x ++ Lib.joinTail [32] (txs l) := by unfold txs; rw [List.map_cons, Lib.join_cons]
    have h1 := tx_len x (h x (by simp))
    have h2 : ∀ l : List L, (∀ x ∈ l, LabP.Ok x.f0 (ct x)) → (Lib.joinTail [32] (txs l)).length ≤ 101 * l.length := by
      intro l
      induction l with
      | nil => intro _; simp [txs, Lib.joinTail]
      | cons y l ih =>
        intro h
        have h3 := ih (fun x hx => h x (by simp [hx]))
        have h4 := tx_len y (h y (by simp))
        unfold txs Lib.joinTail at h3 ⊢
        simp only [List.map_cons, List.flatten_cons, List.length_append, List.length_cons, List.length_nil]
        omega
    have h3 := h2 l (fun x hx => h x (by simp [hx]))
    rw [e, List.length_append, List.length_cons]
    omega
theorem latTexts_f : ∀ (l : List L), (∀ x ∈ l, U x) → (∀ x ∈ l, LabP.Ok x.f0 (ct x)) → latTexts l = some (l.map fun x => LabP.textB x.f0.toNat (ct x))
  | [], _, _ => rfl
  | x :: l, hu, hv => by
    obtain ⟨h1, h2⟩ := (hu x (by simp)).ct
    have ih := latTexts_f l (fun y hy => hu y (by simp [hy])) (fun y hy => hv y (by simp [hy]))
    have ht := LabP.text_yes x.f0 (ct x) (hv x (by simp))
    rw [← h1] at ht
    simp only [latTexts]
    rw [ht, ih]
    rfl
theorem rtext_ev {x : L} (hx : U x) (h : LabP.Ok x.f0 (ct x)) : EvV (fun k => barbicanref01_Text.f k x.f0 x.f1) (LabP.textB x.f0.toNat (ct x), 0) := by
  obtain ⟨h1, h2⟩ := hx.ct
  refine ⟨50, fun k hk => ?_⟩
  show barbicanref01_Text.f k x.f0 x.f1 = _
  rw [h1]
  exact LabP.rtext_ok k _ _ hk h
theorem rtext_l {ls : List L} (hf : ls.length ≤ 16) (hu : ∀ x ∈ ls, U x) (hv : ∀ x ∈ ls, LabP.Ok x.f0 (ct x)) : ∀ (d i : Nat) (s : ByteArray), i + d = ls.length → s.data.toList = Lib.join (txs (ls.take i)) [32] → EvV (fun k => barbicanref02_Text.l0 k ls s (i : Int)) ⟨(Lib.join (txs ls) [32]).toArray⟩
  | 0, i, s, hi, hs => by
    rw [List.take_of_length_le (by omega)] at hs
    have e : s = ⟨(Lib.join (txs ls) [32]).toArray⟩ := LabP.byte_eq hs
    rw [← e]
    refine EvV.succ (fun k => ?_) (EvV.const _)
    simp only [barbicanref02_Text.l0]
    rw [if_neg (by omega)]
  | d + 1, i, s, hi, hs => by
    have hm := at_mem ls i (by omega)
    have hsz : s.size ≤ 101 * 16 := by
      have := txs_len (ls.take i) (fun x hx => hv x (List.mem_of_mem_take hx))
      rw [← LabP.size_list, hs]
      rw [List.length_take] at this
      omega
    have hts := tx_len _ (hv _ hm)
    have hts' : (LabP.textB (at_ ls i).f0.toNat (ct (at_ ls i))).size ≤ 100 := hts
    refine EvV.succ (fun k => by simp only [barbicanref02_Text.l0]; rw [if_pos (by omega), if_pos (by omega), rd_at, wr1' i (by omega)]) (EvV.bind (rtext_ev (hu _ hm) (hv _ hm)) ?_)
    have hc1 : (s ++ (⟨#[32]⟩ : ByteArray)).data.toList = s.data.toList ++ [32] := LabP.cat_list _ _
    have hs1 : (s ++ (⟨#[32]⟩ : ByteArray)).size = s.size + 1 := by rw [← LabP.size_list, hc1, List.length_append, LabP.size_list]; rfl
    have et : txs (ls.take (i + 1)) = txs (ls.take i) ++ [tx (at_ ls i)] := by rw [take_at ls i (by omega)]; unfold txs; rw [List.map_append]; rfl
    by_cases h0 : i = 0
    · subst h0
      have ih := rtext_l hf hu hv d 1 (s ++ LabP.textB (at_ ls 0).f0.toNat (ct (at_ ls 0))) (by omega) (by
        rw [LabP.cat_list, hs, show 1 = 0 + 1 from rfl, et]
        simp [txs, Lib.join, tx])
      refine EvV.of (fun k => ?_) ih
      show (if ((0 : Nat) : Int) > 0 then _ else _) = _
      dsimp only
      rw [if_neg (by omega), if_pos (by omega)]
    · have hne : txs (ls.take i) ≠ [] := by
        intro h
        have := congrArg List.length h
        unfold txs at this
        rw [List.length_map, List.length_take, List.length_nil] at this
        omega
      have ih := rtext_l hf hu hv d (i + 1) ((s ++ (⟨#[32]⟩ : ByteArray)) ++ LabP.textB (at_ ls i).f0.toNat (ct (at_ ls i))) (by omega) (by
        rw [LabP.cat_list, hc1, hs, et, join_snoc _ _ hne]
        rfl)
      refine EvV.of (fun k => ?_) ih
      show (if (i : Int) > 0 then _ else _) = _
      dsimp only
      rw [if_pos (by omega), if_pos (by omega), if_pos (by rw [hs1]; omega)]
/-- The lattice's text is the document's. -/
theorem text_same {ls : List L} (hf : ls.length ≤ 16) (hu : ∀ x ∈ ls, U x) (hv : ∀ x ∈ ls, LabP.Ok x.f0 (ct x)) : ∃ t, lattice_Lattice_Text.f ls = some t ∧ EvV (fun k => barbicanref02_Text.f k ls) t ∧ t.data.toList = Lib.join (txs ls) [32] := by
  refine ⟨⟨(Lib.join (txs ls) [32]).toArray⟩, ?_, EvV.of (fun k => rfl) (rtext_l hf hu hv ls.length 0 ⟨#[]⟩ (Nat.zero_add _) (by rw [List.take_zero]; rfl)), by simp⟩
  have h1 := txs_len ls hv
  have e : (ls.map fun x => LabP.textB x.f0.toNat (ct x)).map (·.data.toList) = txs ls := by rw [List.map_map]; rfl
  unfold lattice_Lattice_Text.f
  rw [latTexts_f ls hu hv, Option.bind_some, e, if_pos (by omega)]
end LatA
end Go.Proofs.YtgcaalgaellciaaGreatDoor.Pure
namespace Go.Proofs.YtgcaalgaellciaaGreatDoor.Pure
open Go.RowKit Go.Proofs.YtgcaalgaellciaaGreatDoor.XLar Go.Proofs.YtgcaalgaellciaaGreatDoorW.PrintWords Go.Proofs.YtgcaalgaellciaaGreatDoorW.PrintLast Go.Proofs.YtgcaalgaellciaaGreatDoorW.PrintMore
set_option linter.unusedVariables false
set_option linter.unusedSimpArgs false
namespace LabP
/-- The categories that the letters among bytes name. -/
def orAny : List UInt8 → Nat → Nat
  | [], c => c
  | b :: r, c => if 97 ≤ b.toNat ∧ b.toNat ≤ 122 then orAny r (c ||| 2 ^ (b.toNat - 97)) else orAny r c
theorem orAny_set : ∀ (l : List UInt8) (c d : Nat), LabL.setCats l c = some d → orAny l c = d := by
  intro l
  induction l with
  | nil => intro c d h; simpa [LabL.setCats, orAny] using h
  | cons b l ih =>
    intro c d h
    rw [LabL.setCats] at h
    rw [orAny]
    by_cases hb : 97 ≤ b.toNat ∧ b.toNat ≤ 122
    · rw [if_pos hb] at h ⊢
      exact ih _ d h
    · rw [if_neg hb] at h
      cases h
open Classical in
/-- What the document's reader ends with. -/
noncomputable def fin (s : ByteArray) (x : Int) (c : Nat) : Int × Int × Int := if Ok x c ∧ textB x.toNat c = s then (x, (c : Int), 0) else (0, 0, 3)
theorem end_f (k : Nat) (s : ByteArray) (x : Int) (c : Nat) (hc : c < 4294967296) (hk : 50 ≤ k) :
    ((barbicanref01_Text.f k x (c : Int)).bind fun bt126 => (if bt126.2 = 0 then (if bt126.1.toList = s.toList then (some (x, (c : Int), 0)) else (some (0, 0, 3))) else (some ((0 : Int), (0 : Int), (3 : Int))))) = some (fin s x c) := by
  unfold fin
  by_cases h : Ok x c
  · rw [rtext_ok k x c hk h, Option.bind_some, if_pos rfl]
    by_cases h1 : textB x.toNat c = s
    · rw [if_pos (by rw [h1]), if_pos ⟨h, h1⟩]
    · rw [if_neg (by rw [Lib.toList_data, Lib.toList_data]; exact fun hh => h1 (byte_eq hh)), if_neg (fun hh => h1 hh.2)]
  · rw [rtext_bad k x c hc hk h, Option.bind_some, if_neg (by decide), if_neg (fun hh => h hh.1)]
theorem bt_nat (s : ByteArray) (i : Nat) (h : i < s.size) : bt s (i : Int) = ((s[i]'h).toNat : Int) := by
  unfold bt
  rw [dif_pos (by rw [Int.toNat_natCast]; exact h)]
  simp only [Int.toNat_natCast]
theorem drop_at (s : ByteArray) (i : Nat) (h : i < s.size) : s.data.toList.drop i = s[i]'h :: s.data.toList.drop (i + 1) := List.drop_eq_getElem_cons (by rw [size_list]; exact h)
theorem shl_bit (b : Nat) (h0 : 97 ≤ b) (h1 : b ≤ 122) : shl .u32 1 (((b : Int) - 97) % 256) = ((2 ^ (b - 97) : Nat) : Int) := by
  have e1 : (((b : Int) - 97) % 256).toNat = b - 97 := by omega
  have e2 : min (b - 97) 32 = b - 97 := by omega
  have e3 : 2 ^ (b - 97) < 67108864 := by
    have e : (2 : Nat) ^ 26 = 67108864 := by decide +kernel
    rw [← e]
    exact Nat.pow_lt_pow_right (by decide) (by omega)
  unfold shl
  rw [e1, show IntKind.u32.bits = 32 from rfl, e2, IntKind.wrap_u32', Int.one_mul, show (2 : Int) ^ (b - 97) = ((2 ^ (b - 97) : Nat) : Int) by push_cast; rfl]
  clear e1 e2 h0 h1
  generalize 2 ^ (b - 97) = m at e3 ⊢
  omega
theorem or32 (c m : Nat) (hc : c < 4294967296) (hm : m < 4294967296) : c ||| m < 4294967296 := by
  have e : (2 : Nat) ^ 32 = 4294967296 := by decide +kernel
  have h := Nat.or_lt_two_pow (x := c) (y := m) (n := 32) (by omega) (by omega)
  omega
theorem rl1_f (s : ByteArray) (hs : s.size ≤ 140737488355328) (x : Int) (d : Nat) : ∀ (k i c : Nat), i + d = s.size → d + 60 ≤ k → c < 4294967296 →
    barbicanref01_Parse.l1 k s (i : Int) x (c : Int) = some (fin s x (orAny (s.data.toList.drop i) c)) := by
  induction d with
  | zero =>
    intro k i c hi hk hc
    obtain ⟨k, rfl⟩ : ∃ q, k = q + 1 := ⟨k - 1, by omega⟩
    simp only [barbicanref01_Parse.l1]
    rw [if_neg (by omega), end_f k s x c hc (by omega), List.drop_eq_nil_of_le (by rw [size_list]; omega), orAny]
  | succ d ih =>
    intro k i c hi hk hc
    obtain ⟨k, rfl⟩ : ∃ q, k = q + 1 := ⟨k - 1, by omega⟩
    have hlt : i < s.size := by omega
    simp only [barbicanref01_Parse.l1]
    rw [if_pos (by omega), if_pos (by omega), bt_nat s i hlt, drop_at s i hlt, orAny, step64 i (by omega)]
    generalize (s[i]'hlt).toNat = b
    by_cases h1 : 97 ≤ b
    · rw [if_pos (by omega)]
      by_cases h2 : b ≤ 122
      · have e3 : 2 ^ (b - 97) < 67108864 := by
          have e : (2 : Nat) ^ 26 = 67108864 := by decide +kernel
          rw [← e]
          exact Nat.pow_lt_pow_right (by decide) (by omega)
        rw [if_pos (by omega), if_pos ⟨h1, h2⟩, shl_bit b h1 h2, u32_or_nat c _ hc (by omega)]
        exact ih k (i + 1) _ (by omega) (by omega) (or32 c _ hc (by omega))
      · rw [if_neg (by omega), if_neg (fun h => h2 h.2)]
        exact ih k (i + 1) c (by omega) (by omega) hc
    · rw [if_neg (by omega), if_neg (fun h => h1 h.1)]
      exact ih k (i + 1) c (by omega) (by omega) hc
/-- The reader's part behind the digits. -/
theorem rj1_f (s : ByteArray) (hs : s.size ≤ 140737488355328) (x : Int) (k i : Nat) (hi : i ≤ s.size) (hk : s.size + 100 ≤ k) :
    barbicanref01_Parse.j1 k s (i : Int) x 0 = some (fin s x (orAny (s.data.toList.drop (i + 1)) 0)) := by
  obtain ⟨k, rfl⟩ : ∃ q, k = q + 1 := ⟨k - 1, by omega⟩
  simp only [barbicanref01_Parse.j1]
  rw [step64 i (by omega)]
  by_cases h : i < s.size
  · exact rl1_f s hs x (s.size - (i + 1)) k (i + 1) 0 (by omega) (by omega) (by omega)
  · obtain ⟨k, rfl⟩ : ∃ q, k = q + 1 := ⟨k - 1, by omega⟩
    simp only [barbicanref01_Parse.l1]
    rw [if_neg (by omega), List.drop_eq_nil_of_le (by rw [size_list]; omega), orAny]
    exact end_f k s x 0 (by omega) (by omega)
theorem rl0_any (s : ByteArray) (hs : s.size ≤ 140737488355328) (d : Nat) : ∀ (k i : Nat) (x : Int), i + d = 3 → i ≤ s.size → s.size + d + 102 ≤ k →
    ∃ x' i', barbicanref01_Parse.l0 k s (i : Int) x 0 = some (fin s x' (orAny (s.data.toList.drop i') 0)) := by
  induction d with
  | zero =>
    intro k i x hi hi2 hk
    obtain ⟨k, rfl⟩ : ∃ q, k = q + 1 := ⟨k - 1, by omega⟩
    have hj := rj1_f s hs x k i hi2 (by omega)
    refine ⟨x, i + 1, ?_⟩
    simp only [barbicanref01_Parse.l0]
    by_cases h : i < s.size
    · rw [if_pos (by omega), if_neg (by omega), hj]
    · rw [if_neg (by omega), hj]
  | succ d ih =>
    intro k i x hi hi2 hk
    obtain ⟨k, rfl⟩ : ∃ q, k = q + 1 := ⟨k - 1, by omega⟩
    have hj := rj1_f s hs x k i hi2 (by omega)
    simp only [barbicanref01_Parse.l0]
    by_cases h : i < s.size
    · rw [if_pos (by omega), if_pos (by omega), if_pos (by omega), step64 i (by omega)]
      by_cases h1 : bt s (i : Int) ≥ 48
      · rw [if_pos h1]
        by_cases h2 : bt s (i : Int) ≤ 57
        · rw [if_pos h2]
          exact ih k (i + 1) _ (by omega) (by omega) (by omega)
        · rw [if_neg h2]
          exact ⟨x, i + 1, hj⟩
      · rw [if_neg h1]
        exact ⟨x, i + 1, hj⟩
    · rw [if_neg (by omega)]
      exact ⟨x, i + 1, hj⟩
theorem fin_text (r c : Nat) (hr : r < 16) (hc : c < 67108864) : fin (textB r c) (r : Int) c = ((r : Int), (c : Int), 0) := by
  unfold fin
  rw [if_pos ⟨⟨by omega, by omega, hc⟩, by rw [Int.toNat_natCast]⟩]
theorem list_bt (s : ByteArray) (l : List UInt8) (hl : s.data.toList = l) (i : Nat) (c : UInt8) (h : l[i]? = some c) : bt s (i : Int) = (c.toNat : Int) ∧ i < s.size := by
  have h1 : i < s.size := by
    rw [← size_list, hl]
    exact (List.getElem?_eq_some_iff.1 h).1
  refine ⟨?_, h1⟩
  rw [bt_nat s i h1]
  have h2 := drop_at s i h1
  rw [hl] at h2
  have h3 : (l.drop i)[0]? = some (s[i]'h1) := by rw [h2]; rfl
  rw [List.getElem?_drop, Nat.add_zero, h] at h3
  rw [Option.some.inj h3]
theorem orAny_text (c : Nat) (hc : c < 67108864) : orAny (LabL.cats c) 0 = c := orAny_set _ 0 c (setCats_cats c hc)
/-- Behind the digits. -/
theorem rest_f (r c : Nat) (hr : r < 16) (hc : c < 67108864) (n k : Nat) (hn : n = (digs r).length) (hk : 300 ≤ k) : barbicanref01_Parse.l0 k (textB r c) (n : Int) (r : Int) 0 = some ((r : Int), (c : Int), 0) := by
  have hl := textB_list r c hr
  have hsz := textB_size r c hr
  have hle : n ≤ (textB r c).size := by rw [← size_list, hl, List.length_append, hn]; omega
  have hdl := digs_len r
  obtain ⟨k, rfl⟩ : ∃ q, k = q + 1 := ⟨k - 1, by omega⟩
  have hor : orAny ((textB r c).data.toList.drop (n + 1)) 0 = c := by
    rw [hl, hn]
    by_cases h0 : c = 0
    · rw [if_pos h0, List.append_nil, List.drop_eq_nil_of_le (by omega), h0]; rfl
    · rw [if_neg h0, List.drop_append, List.drop_eq_nil_of_le (by omega), List.nil_append, show (digs r).length + 1 - (digs r).length = 1 by omega]
      exact orAny_text c hc
  have hj := rj1_f (textB r c) (by omega) (r : Int) k n hle (by omega)
  rw [hor, fin_text r c hr hc] at hj
  simp only [barbicanref01_Parse.l0]
  by_cases h : n < (textB r c).size
  · have h0 : ¬ c = 0 := by
      rintro rfl
      rw [← size_list, hl, if_pos rfl, List.append_nil] at h
      omega
    rw [if_neg h0] at hl
    obtain ⟨hb, _⟩ := list_bt (textB r c) _ hl n 58 (by rw [hn, List.getElem?_append_right (Nat.le_refl _), Nat.sub_self]; rfl)
    rw [if_pos (by omega), if_pos (by omega), if_pos (by omega), hb, if_pos (by decide), if_neg (by decide), hj]
  · rw [if_neg (by omega), hj]
theorem rparse_text (r c : Nat) (hr : r < 16) (hc : c < 67108864) (k : Nat) (hk : 400 ≤ k) : barbicanref01_Parse.f k (textB r c) = some ((r : Int), (c : Int), 0) := by
  have hl := textB_list r c hr
  unfold barbicanref01_Parse.f
  obtain ⟨k, rfl⟩ : ∃ q, k = q + 2 := ⟨k - 2, by omega⟩
  by_cases h10 : r < 10
  · have hd : digs r = [UInt8.ofNat (48 + r)] := by unfold digs; rw [if_pos h10]
    obtain ⟨hb, hlt⟩ := list_bt (textB r c) _ hl 0 (UInt8.ofNat (48 + r)) (by rw [hd]; rfl)
    rw [ofNat_toNat _ (by omega)] at hb
    have hb' : bt (textB r c) 0 = ((48 + r : Nat) : Int) := hb
    have hf := rest_f r c hr hc 1 (k + 1) (by rw [hd]; rfl) (by omega)
    simp only [barbicanref01_Parse.l0]
    rw [if_pos (by omega), if_pos (by decide), if_pos (by decide), hb', if_pos (by omega), if_pos (by omega)]
    rw [show wrap64 ((0 : Int) + 1) = ((1 : Nat) : Int) by decide +kernel, show wrap64 (wrap64 (10 * 0) + (((48 + r : Nat) : Int) - 48) % 256) = (r : Int) by rw [show wrap64 (10 * 0) = 0 by decide +kernel, wrap64_small _ (by omega) (by omega)]; omega]
    exact hf
  · have hd : digs r = [49, UInt8.ofNat (48 + (r - 10))] := by unfold digs; rw [if_neg h10]
    obtain ⟨hb, hlt⟩ := list_bt (textB r c) _ hl 0 49 (by rw [hd]; rfl)
    obtain ⟨hb2, hlt2⟩ := list_bt (textB r c) _ hl 1 (UInt8.ofNat (48 + (r - 10))) (by rw [hd]; rfl)
    rw [ofNat_toNat _ (by omega)] at hb2
    have hb' : bt (textB r c) 0 = 49 := hb
    have hb2' : bt (textB r c) 1 = ((48 + (r - 10) : Nat) : Int) := hb2
    have hf := rest_f r c hr hc 2 k (by rw [hd]; rfl) (by omega)
    simp only [barbicanref01_Parse.l0]
    rw [if_pos (by omega), if_pos (by decide), if_pos (by decide), hb', if_pos (by decide), if_pos (by decide)]
    rw [show wrap64 ((0 : Int) + 1) = (1 : Int) by decide +kernel, show wrap64 (wrap64 (10 * 0) + ((49 : Int) - 48) % 256) = (1 : Int) by decide +kernel]
    rw [if_pos (by omega), if_pos (by decide), if_pos (by decide), hb2', if_pos (by omega), if_pos (by omega)]
    rw [show wrap64 ((1 : Int) + 1) = ((2 : Nat) : Int) by decide +kernel, show wrap64 (wrap64 (10 * 1) + (((48 + (r - 10) : Nat) : Int) - 48) % 256) = (r : Int) by rw [show wrap64 (10 * 1) = 10 by decide +kernel, wrap64_small _ (by omega) (by omega)]; omega]
    exact hf
end LabP
end Go.Proofs.YtgcaalgaellciaaGreatDoor.Pure
namespace Go.Proofs.YtgcaalgaellciaaGreatDoor.Pure
open Go.RowKit Go.Proofs.YtgcaalgaellciaaGreatDoor.XLar Go.Proofs.YtgcaalgaellciaaGreatDoorW.PrintWords Go.Proofs.YtgcaalgaellciaaGreatDoorW.PrintLast Go.Proofs.YtgcaalgaellciaaGreatDoorW.PrintMore
open LatA
set_option linter.unusedVariables false
set_option linter.unusedSimpArgs false
namespace LatA
theorem cut_no : ∀ (p : List UInt8), (∀ c ∈ p, c ≠ 32) → Rng.cut p = [p]
  | [], _ => rfl
  | b :: p, h => by
    show (if b = 32 then [] :: Rng.cut p else match Rng.cut p with | [] => [[b]] | q :: r => (b :: q) :: r) = _
    rw [if_neg (h b (by simp)), cut_no p (fun c hc => h c (by simp [hc]))]
theorem cut_at (m : List UInt8) : ∀ (p : List UInt8), (∀ c ∈ p, c ≠ 32) → Rng.cut (p ++ 32 :: m) = p :: Rng.cut m
  | [], _ => by
    show (if (32 : UInt8) = 32 then [] :: Rng.cut m else _) = _
    rw [if_pos rfl]
  | b :: p, h => by
    show (if b = 32 then [] :: Rng.cut (p ++ 32 :: m) else match Rng.cut (p ++ 32 :: m) with | [] => [[b]] | q :: r => (b :: q) :: r) = _
    rw [if_neg (h b (by simp)), cut_at m p (fun c hc => h c (by simp [hc]))]
theorem cut_ne : ∀ (s : List UInt8), Rng.cut s ≠ []
  | [] => by simp [Rng.cut]
  | b :: s => by
    show (if b = 32 then [] :: Rng.cut s else match Rng.cut s with | [] => [[b]] | q :: r => (b :: q) :: r) ≠ []
    split
    · simp
    · split <;> simp
theorem join_cut : ∀ (s : List UInt8), Lib.join (Rng.cut s) [32] = s
  | [] => rfl
  | b :: s => by
    have ih := join_cut s
    have hne := cut_ne s
    show Lib.join (if b = 32 then [] :: Rng.cut s else match Rng.cut s with | [] => [[b]] | q :: r => (b :: q) :: r) [32] = _
    cases hc : Rng.cut s with
    | nil => exact absurd hc hne
    | cons q r =>
      rw [hc, Lib.join_cons] at ih
      by_cases hb : b = 32
      · rw [if_pos hb, Lib.join_cons, Lib.joinTail, List.map_cons, List.flatten_cons]
        unfold Lib.joinTail at ih
        rw [List.nil_append, List.append_assoc, ih, hb]
        rfl
      · rw [if_neg hb]
        show Lib.join ((b :: q) :: r) [32] = _
        rw [Lib.join_cons, List.cons_append, ih]
def bb (l : List UInt8) : ByteArray := ⟨l.toArray⟩
/-- The label that is read of a part. -/
def lb (p : List UInt8) : L := ⟨(latPf (bb p)).1, (latPf (bb p)).2.1⟩
theorem bb_list (p : List UInt8) : (bb p).data.toList = p := by unfold bb; simp
theorem bb_size (p : List UInt8) : (bb p).size = p.length := by rw [← LabP.size_list, bb_list]
theorem read_one (p : List UInt8) (hp : p.length ≤ 1048576) : (latErr (bb p) = false ∧ LabP.Ok (lb p).f0 (ct (lb p)) ∧ U (lb p) ∧ tx (lb p) = p ∧ (label_Parse.f (bb p)).isSome = true ∧ EvV (fun k => barbicanref01_Parse.f k (bb p)) ((lb p).f0, (lb p).f1, 0)) ∨ (latErr (bb p) = true ∧ (label_Parse.f (bb p)).isSome = true ∧ EvV (fun k => barbicanref01_Parse.f k (bb p)) (0, 0, 3)) := by
  have hsz := bb_size p
  rcases LabP.parse_back (bb p) (by omega) with ⟨r, c, hr, hc, hs, h⟩ | h
  · left
    have e : latPf (bb p) = ((r : Int), (c : Int), none) := by unfold latPf; rw [h]; rfl
    have el : lb p = ⟨(r : Int), (c : Int)⟩ := by unfold lb; rw [e]
    refine ⟨by unfold latErr; rw [e]; rfl, ?_, ?_, ?_, by rw [h]; rfl, ?_⟩
    · rw [el]
      exact ⟨Int.natCast_nonneg r, by show (r : Int) ≤ 15; omega, hc⟩
    · rw [el]
      exact ⟨Int.natCast_nonneg c, by show (c : Int) < 4294967296; omega⟩
    · rw [el]
      show (LabP.textB r c).data.toList = p
      rw [← hs, bb_list]
    · rw [el]
      refine ⟨400, fun k hk => ?_⟩
      show barbicanref01_Parse.f k (bb p) = _
      rw [hs]
      exact LabP.rparse_text r c hr hc k hk
  · right
    have e : latPf (bb p) = (0, 0, some 3) := by unfold latPf; rw [h]; rfl
    refine ⟨by unfold latErr; rw [e]; rfl, by rw [h]; rfl, ⟨p.length + 105, fun k hk => ?_⟩⟩
    obtain ⟨x', i', hx⟩ := LabP.rl0_any (bb p) (by omega) 3 k 0 0 (by omega) (by omega) (by omega)
    show barbicanref01_Parse.f k (bb p) = _
    unfold barbicanref01_Parse.f
    refine Eq.trans hx ?_
    unfold LabP.fin
    by_cases hf : LabP.Ok x' (LabP.orAny ((bb p).data.toList.drop i') 0) ∧ LabP.textB x'.toNat (LabP.orAny ((bb p).data.toList.drop i') 0) = bb p
    · exfalso
      obtain ⟨hok, ht⟩ := hf
      have hp := LabP.parse_text x'.toNat _ (by have := hok.2.1; omega) hok.2.2
      rw [ht, h] at hp
      simp at hp
    · rw [if_neg hf]
/-- What the document reads: of the labels so far and the parts to come. -/
def outN (X : List L) : List L × Int := match latNew X with
  | none => (X, 0)
  | some e => ([], e)
def outR (l : List L) (ps : List (List UInt8)) : List L × Int := if (ps.any fun p => latErr (bb p)) = true then ([], 3) else outN (l ++ ps.map lb)
theorem outR_err (l : List L) (p : List UInt8) (ps : List (List UInt8)) (h : latErr (bb p) = true) : outR l (p :: ps) = ([], 3) := by
  unfold outR
  rw [List.any_cons, h, Bool.true_or, if_pos rfl]
theorem outR_ok (l : List L) (p : List UInt8) (ps : List (List UInt8)) (h : latErr (bb p) = false) : outR l (p :: ps) = outR (l ++ [lb p]) ps := by
  unfold outR
  rw [List.any_cons, h, Bool.false_or, List.map_cons, List.append_assoc]
  rfl
theorem piece (s : ByteArray) (A p m : List UInt8) (h : s.data.toList = A ++ (p ++ m)) : s.extract A.length (A.length + p.length) = bb p := by
  apply LabP.byte_eq
  rw [bb_list, ByteArray.data_extract, Array.toList_extract, h]
  simp
/-- Behind all parts. -/
theorem rparse_end (s : ByteArray) (hs : s.size ≤ 1048576) (l : List L) (hu : ∀ x ∈ l, U x) : EvV (fun k => barbicanref02_Parse.l0 k s l ((s.size + 1 : Nat) : Int) ((s.size + 1 : Nat) : Int)) (outN l) := by
  refine EvV.succ (fun k => by simp only [barbicanref02_Parse.l0]; rw [if_neg (by omega)]) (EvV.bind (rnew_f hu) ?_)
  unfold outN
  cases hn : latNew l with
  | none => exact EvV.of (fun k => if_pos rfl) (EvV.const _)
  | some e => exact EvV.of (fun k => if_neg (new_num hn)) (EvV.const _)
/-- A part's end. -/
theorem rparse_j1 (s : ByteArray) (hs : s.size ≤ 1048576) (A p m : List UInt8) (l : List L) (h : s.data.toList = A ++ (p ++ m)) (hl : l.length ≤ A.length) (v : List L × Int)
    (he : latErr (bb p) = true → v = ([], 3)) (hn : latErr (bb p) = false → U (lb p) → EvV (fun k => barbicanref02_Parse.l0 k s (l ++ [lb p]) ((A.length + p.length + 1 : Nat) : Int) ((A.length + p.length + 1 : Nat) : Int)) v) :
    EvV (fun k => barbicanref02_Parse.j1 k s l (A.length : Int) ((A.length + p.length : Nat) : Int) true) v := by
  have hsz := LabP.size_list s
  rw [h, List.length_append, List.length_append] at hsz
  have hpc := piece s A p m h
  have hw : wrap64 (((A.length + p.length : Nat) : Int) + 1) = ((A.length + p.length + 1 : Nat) : Int) := by rw [wrap64_small _ (by omega) (by omega)]; omega
  have ho : ∀ k, barbicanref02_Parse.j1 (k + 1) s l (A.length : Int) ((A.length + p.length : Nat) : Int) true = (barbicanref01_Parse.f k (bb p)).bind fun bt121 => (if bt121.2.2 = 0 then (if l.length < 8796093022208 then (barbicanref02_Parse.l0 k s (l ++ [(⟨bt121.1, bt121.2.1⟩ : L)]) ((A.length + p.length + 1 : Nat) : Int) ((A.length + p.length + 1 : Nat) : Int)) else none) else some (([] : List L), 3)) := fun k => by
    simp only [barbicanref02_Parse.j1, if_true]
    rw [if_pos (by omega), if_pos (by omega), if_pos (by omega), Int.toNat_natCast, Int.toNat_natCast, hpc, hw]
  rcases read_one p (by omega) with ⟨h1, _, hU, _, _, h2⟩ | ⟨h1, _, h2⟩
  · refine EvV.succ ho (EvV.bind h2 ?_)
    refine EvV.of (fun k => ?_) (hn h1 hU)
    show (if (0 : Int) = 0 then _ else _) = _
    rw [if_pos rfl, if_pos (by omega)]
  · refine EvV.succ ho (EvV.bind h2 ?_)
    rw [he h1]
    refine EvV.of (fun k => ?_) (EvV.const _)
    show (if (3 : Int) = 0 then _ else _) = _
    rw [if_neg (by omega)]
theorem snoc_all {α : Type} {P : α → Prop} {l : List α} {x : α} (h : ∀ y ∈ l, P y) (hx : P x) : ∀ y ∈ l ++ [x], P y := fun y hy => by
  rcases List.mem_append.1 hy with hy | hy
  · exact h y hy
  · rw [List.mem_singleton.1 hy]; exact hx
theorem rparse_l0 (s : ByteArray) (hs : s.size ≤ 1048576) : ∀ (m A p : List UInt8) (l : List L), s.data.toList = A ++ (p ++ m) → (∀ c ∈ p, c ≠ 32) → l.length ≤ A.length → (∀ x ∈ l, U x) → EvV (fun k => barbicanref02_Parse.l0 k s l (A.length : Int) ((A.length + p.length : Nat) : Int)) (outR l (Rng.cut (p ++ m)))
  | [], A, p, l, h, hp, hl, hu => by
    have hsz := LabP.size_list s
    rw [h, List.length_append, List.length_append, List.length_nil] at hsz
    rw [List.append_nil, cut_no p hp]
    refine EvV.succ (fun k => ?_) (rparse_j1 s hs A p [] l h hl _ (fun h1 => outR_err l p [] h1) (fun h1 hU => ?_))
    · simp only [barbicanref02_Parse.l0]
      rw [if_pos (by omega), if_pos (by omega)]
    · rw [outR_ok l p [] h1, show A.length + p.length + 1 = s.size + 1 by omega]
      have e : outR (l ++ [lb p]) [] = outN (l ++ [lb p]) := by unfold outR; rw [List.any_nil, if_neg (by simp), List.map_nil, List.append_nil]
      rw [e]
      exact rparse_end s hs _ (snoc_all hu hU)
  | c :: m, A, p, l, h, hp, hl, hu => by
    have hsz := LabP.size_list s
    rw [h, List.length_append, List.length_append, List.length_cons] at hsz
    obtain ⟨hb, hlt⟩ := LabP.list_bt s _ h (A.length + p.length) c (by
      rw [List.getElem?_append_right (by omega), List.getElem?_append_right (by omega), show A.length + p.length - A.length - p.length = 0 by omega]
      rfl)
    have hstep : ∀ k, barbicanref02_Parse.l0 (k + 1) s l (A.length : Int) ((A.length + p.length : Nat) : Int) = barbicanref02_Parse.j1 k s l (A.length : Int) ((A.length + p.length : Nat) : Int) ((c.toNat : Int) == 32) := fun k => by
      simp only [barbicanref02_Parse.l0]
      rw [if_pos (by omega), if_neg (by omega), if_pos (by omega), if_pos (by omega), hb]
    by_cases hc : c = 32
    · subst hc
      have e : (((32 : UInt8).toNat : Int) == 32) = true := rfl
      rw [cut_at m p hp]
      refine EvV.succ (fun k => by rw [hstep k, e]) (rparse_j1 s hs A p (32 :: m) l h hl _ (fun h1 => outR_err l p _ h1) (fun h1 hU => ?_))
      rw [outR_ok l p _ h1]
      have ih := rparse_l0 s hs m (A ++ p ++ [32]) [] (l ++ [lb p]) (by rw [h]; simp) (fun c hc => by cases hc) (by simp; omega) (snoc_all hu hU)
      have el : (A ++ p ++ [(32 : UInt8)]).length = A.length + p.length + 1 := by simp; omega
      rw [el] at ih
      exact ih
    · have e : ((c.toNat : Int) == 32) = false := by
        rw [beq_eq_false_iff_ne]
        intro h1
        apply hc
        apply UInt8.toNat_inj.1
        show c.toNat = 32
        omega
      have ih := rparse_l0 s hs m A (p ++ [c]) l (by rw [h]; simp) (snoc_all hp hc) hl hu
      rw [List.append_assoc] at ih
      have el : A.length + (p ++ [c]).length = A.length + p.length + 1 := by simp; omega
      rw [el] at ih
      refine EvV.succ (G := fun k => barbicanref02_Parse.j1 k s l (A.length : Int) ((A.length + p.length : Nat) : Int) false) (fun k => by rw [hstep k, e]) (EvV.succ (fun k => ?_) ih)
      simp only [barbicanref02_Parse.j1, Bool.false_eq_true, if_false]
      rw [show wrap64 (((A.length + p.length : Nat) : Int) + 1) = ((A.length + p.length + 1 : Nat) : Int) by rw [wrap64_small _ (by omega) (by omega)]; omega]
theorem rparse_f (s : ByteArray) (hs : s.size ≤ 1048576) : EvV (fun k => barbicanref02_Parse.f k s) (outR [] (Rng.cut s.data.toList)) :=
  EvV.of (fun k => rfl) (rparse_l0 s hs s.data.toList [] [] [] rfl (fun c hc => by cases hc) (Nat.le_refl _) (fun x hx => by cases hx))
theorem part_len (s : ByteArray) (p : List UInt8) (h : p ∈ Rng.cut s.data.toList) : p.length ≤ s.size := by
  rw [← bb_size p]
  exact Rng.parts_size s (bb p) (List.mem_map.2 ⟨p, h, rfl⟩)
theorem parts_all (s : ByteArray) (q : ByteArray → Bool) : (Rng.parts s).all q = (Rng.cut s.data.toList).all fun p => q (bb p) := by unfold Rng.parts; rw [List.all_map]; rfl
theorem parts_any (s : ByteArray) (q : ByteArray → Bool) : (Rng.parts s).any q = (Rng.cut s.data.toList).any fun p => q (bb p) := by unfold Rng.parts; rw [List.any_map]; rfl
theorem read_lb (s : ByteArray) : latRead s = (Rng.cut s.data.toList).map lb := by unfold latRead Rng.parts; rw [List.map_map]; rfl
theorem parse_f (s : ByteArray) (hs : s.size ≤ 1048576) : lattice_Parse.f s = if ((Rng.cut s.data.toList).any fun p => latErr (bb p)) = true then some ([], some 3) else lattice_New.f ((Rng.cut s.data.toList).map lb) := by
  unfold lattice_Parse.f
  have h1 : (Rng.parts s).all (fun t => (label_Parse.f t).isSome) = true := by
    rw [parts_all, List.all_eq_true]
    intro p hp
    have := part_len s p hp
    rcases read_one p (by omega) with ⟨_, _, _, _, h, _⟩ | ⟨_, h, _⟩ <;> exact h
  rw [if_pos hs, if_pos h1, parts_any, read_lb]
theorem reads_no (s : ByteArray) (e : Int) : EvV (fun k => barbicanlaw02_LatticeReads.j0 k s [] (some e) [] e true) true := by
  refine EvV.succ (fun k => ?_) sure_ev
  simp only [barbicanlaw02_LatticeReads.j0, if_true]
  rw [show barbicanlaw02_num.f (some e) = some e from rfl, Option.bind_some, if_pos rfl, if_pos (by rfl), bind_id]
theorem reads_yes (s : ByteArray) {X : List L} (ok : Ok X) (hne : X ≠ []) (hv : ∀ x ∈ X, LabP.Ok x.f0 (ct x)) (hj : Lib.join (txs X) [32] = s.data.toList) : EvV (fun k => barbicanlaw02_LatticeReads.j0 k s X none X 0 false) true := by
  obtain ⟨t, ht, hr, hl⟩ := text_same ok.few ok.u hv
  have hts : t = s := LabP.byte_eq (hl.trans hj)
  subst hts
  have hem : X.isEmpty = false := by simpa using hne
  refine EvV.succ (G := fun k => (barbicanref02_Text.f k X).bind fun t159 => if t.toList = t159.toList then ((lattice_Lattice_Text.f X).bind fun t160 => if t160.toList = t.toList then ((barbicanlaw02_sure.f k).bind fun t161 => some t161) else some false) else some false) (fun k => ?_) (EvV.bind hr ?_)
  · simp only [barbicanlaw02_LatticeReads.j0, Bool.false_eq_true, if_false, hem]
    rw [ht, Option.bind_some]
  · exact EvV.of (fun k => by rw [if_pos rfl, ht, Option.bind_some, if_pos rfl, bind_id]) sure_ev
end LatA
open LatA
theorem LatticeReads (a0 : ByteArray) (g0 : (fun s : ByteArray => s.size ≤ maxLen) a0) (b0 : (fun s : ByteArray => s.size + 1) a0 ≤ 1048576) : ∃ k, barbicanlaw02_LatticeReads.f k a0 = some true := by
  have hs : a0.size ≤ 1048576 := by
    have : a0.size + 1 ≤ 1048576 := b0
    omega
  have hr := rparse_f a0 hs
  refine Ev.ex ?_
  unfold barbicanlaw02_LatticeReads.f
  rw [parse_f a0 hs]
  unfold outR at hr
  by_cases he : ((Rng.cut a0.data.toList).any fun p => latErr (bb p)) = true
  · rw [if_pos he] at hr
    simp only [if_pos he, Option.bind_some]
    refine EvV.bind hr (EvV.of (fun k => ?_) (reads_no a0 3))
    show (if (3 : Int) = 0 then _ else _) = _
    rw [if_neg (by omega)]
  · rw [if_neg he, List.nil_append] at hr
    have hall : ∀ p ∈ Rng.cut a0.data.toList, latErr (bb p) = false := fun p hp => by
      cases hq : latErr (bb p) with
      | false => rfl
      | true => exact absurd (List.any_eq_true.2 ⟨p, hp, hq⟩) he
    have hone : ∀ p ∈ Rng.cut a0.data.toList, U (lb p) ∧ tx (lb p) = p := fun p hp => by
      have := part_len a0 p hp
      rcases read_one p (by omega) with ⟨_, _, h1, h2, _, _⟩ | ⟨h1, _, _⟩
      · exact ⟨h1, h2⟩
      · rw [hall p hp] at h1; cases h1
    have hu : ∀ x ∈ (Rng.cut a0.data.toList).map lb, U x := fun x hx => by
      obtain ⟨p, hp, rfl⟩ := List.mem_map.1 hx
      exact (hone p hp).1
    have htx : txs ((Rng.cut a0.data.toList).map lb) = Rng.cut a0.data.toList := by
      unfold txs
      rw [List.map_map]
      conv => rhs; rw [← List.map_id (Rng.cut a0.data.toList)]
      exact List.map_congr_left fun p hp => (hone p hp).2
    have hj : Lib.join (txs ((Rng.cut a0.data.toList).map lb)) [32] = a0.data.toList := by rw [htx, join_cut]
    generalize (Rng.cut a0.data.toList).map lb = X at hr hu hj
    simp only [if_neg he, new_f hu, Option.bind_some]
    unfold outN at hr
    cases hn : latNew X with
    | some e =>
      rw [hn] at hr
      refine EvV.bind hr (EvV.of (fun k => ?_) (reads_no a0 e))
      show (if e = 0 then _ else _) = _
      rw [if_neg (new_num hn), latMade_some hn]
    | none =>
      rw [hn] at hr
      obtain ⟨hne, ok, hv⟩ := new_ok hu hn
      refine EvV.bind hr (EvV.of (fun k => ?_) (reads_yes a0 ok hne (fun x hx => valid_ok (hu x hx) (hv x hx).2.2) hj))
      show (if (0 : Int) = 0 then _ else _) = _
      rw [if_pos rfl, if_pos (by rfl), latMade_none hn]
end Go.Proofs.YtgcaalgaellciaaGreatDoor.Pure
