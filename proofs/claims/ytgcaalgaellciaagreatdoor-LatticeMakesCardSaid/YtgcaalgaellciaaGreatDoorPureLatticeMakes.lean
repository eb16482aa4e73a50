/- LatticeMakes, plain: the lattice of all labels, or the error; each label's place, and the label of each place, are the document's. -/
import Derived.Test.YtgcaalgaellciaaGreatDoorXLamx17
import Derived.Test.YtgcaalgaellciaaGreatDoorXSt37
import Derived.Test.YtgcaalgaellciaaGreatDoorXLamx10
import Derived.Test.YtgcaalgaellciaaGreatDoorXLamx13
import Derived.Test.YtgcaalgaellciaaGreatDoorXLamx14
import Derived.Test.YtgcaalgaellciaaGreatDoorXLamx5
import Derived.Test.YtgcaalgaellciaaGreatDoorXLamx12
import Derived.Lib.AtoiAllCases
/- A lattice, plain: whether the document makes it, and the text that the document gives it, are the program's. -/
/- A lattice, plain: what it is made of. -/
/- Labels, plain: their texts, and what is read of texts; the document's texts of them. -/
namespace Go.Proofs.YtgcaalgaellciaaGreatDoor.Pure
open Go.RowKit Go.Proofs.YtgcaalgaellciaaGreatDoor.XLam Go.Proofs.YtgcaalgaellciaaGreatDoorW.PrintWords Go.Proofs.YtgcaalgaellciaaGreatDoorW.PrintLast Go.Proofs.YtgcaalgaellciaaGreatDoorW.PrintMore
set_option linter.unusedVariables false
set_option linter.unusedSimpArgs false
namespace LabP
theorem u32_wf {n : Int} (h : (Lit.int .u32 n).wf = true) : 0 ≤ n ∧ n < 4294967296 := by
  simp [Lit.wf, IntKind.min, IntKind.max, IntKind.bits, IntKind.signed] at h
  omega
theorem i64_wf {n : Int} (h : (Lit.int .i64 n).wf = true) : -9223372036854775808 ≤ n ∧ n ≤ 9223372036854775807 := by
  simp [Lit.wf, IntKind.min, IntKind.max, IntKind.bits, IntKind.signed] at h
  omega
theorem wrap64_small (x : Int) (h0 : -9223372036854775808 ≤ x) (h1 : x < 9223372036854775808) : wrap64 x = x := by
  unfold wrap64
  omega
/-- A rank's digits. -/
def digs (r : Nat) : List UInt8 := if r < 10 then [UInt8.ofNat (48 + r)] else [49, UInt8.ofNat (48 + (r - 10))]
theorem dec_digs (r : Nat) (h : r < 16) : Lib.decDigits r = digs r := by
  unfold digs
  by_cases h1 : r < 10
  · rw [if_pos h1, Lib.decDigits_one h1]
  · rw [if_neg h1, Lib.decDigits_two h1 (by omega), show r / 10 = 1 by omega, show r % 10 = r - 10 by omega]
    rfl
theorem atoi_digs (r : Nat) (h : r < 16) : Lab.atoiOf (digs r) = ((r : Int), true) := by
  have h1 : ∀ r : Fin 16, Lib.atoiAll (digs r.val) = .ok (r.val : Int) := by decide +kernel
  unfold Lab.atoiOf
  rw [h1 ⟨r, h⟩]
theorem digs_no (r : Nat) (h : r < 16) : ∀ c ∈ digs r, c ≠ 58 := by
  have h1 : ∀ r : Fin 16, ∀ c ∈ digs r.val, c ≠ 58 := by decide +kernel
  exact h1 ⟨r, h⟩
theorem digs_len (r : Nat) : (digs r).length ≤ 2 := by unfold digs; split <;> simp
theorem index_no (l : List UInt8) (h : ∀ c ∈ l, c ≠ 58) : Lib.indexByte l 58 = -1 := by
  induction l with
  | nil => rfl
  | cons b l ih =>
    have h1 : (b == 58) = false := by simpa using h b (by simp)
    unfold Lib.indexByte
    rw [h1, ih (fun c hc => h c (by simp [hc]))]
    rfl
theorem index_at (l m : List UInt8) (h : ∀ c ∈ l, c ≠ 58) : Lib.indexByte (l ++ 58 :: m) 58 = (l.length : Int) := by
  induction l with
  | nil => rfl
  | cons b l ih =>
    have h1 : (b == 58) = false := by simpa using h b (by simp)
    have h2 := ih (fun c hc => h c (by simp [hc]))
    rw [List.cons_append]
    unfold Lib.indexByte
    rw [h1, h2, if_neg (by simp), if_neg (by rw [beq_iff_eq]; omega), List.length_cons]
    rfl
theorem parts (l : List UInt8) : (∀ c ∈ l, c ≠ 58) ∨ ∃ p m, l = p ++ 58 :: m ∧ ∀ c ∈ p, c ≠ 58 := by
  induction l with
  | nil => exact .inl fun c hc => by cases hc
  | cons b l ih =>
    by_cases hb : b = 58
    · exact .inr ⟨[], l, by rw [hb]; rfl, fun c hc => by cases hc⟩
    · rcases ih with h | ⟨p, m, rfl, h⟩
      · exact .inl fun c hc => by rcases List.mem_cons.1 hc with rfl | hc; exact hb; exact h c hc
      · exact .inr ⟨b :: p, m, rfl, fun c hc => by rcases List.mem_cons.1 hc with rfl | hc; exact hb; exact h c hc⟩
theorem size_list (s : ByteArray) : s.data.toList.length = s.size := rfl
theorem cut_no (s : ByteArray) (h : ∀ c ∈ s.data.toList, c ≠ 58) : strings_Cut.f s ⟨#[58]⟩ = some (s, ⟨#[]⟩, false) := by
  unfold strings_Cut.f stringslite_Cut.f
  rw [show stringslite_Index.f s ⟨#[58]⟩ = some (Lib.indexByte s.data.toList 58) from rfl, index_no _ h, Option.bind_some, if_neg (by omega)]
  rfl
theorem cut_at (s : ByteArray) (hs : s.size ≤ 140737488355328) (l m : List UInt8) (hl : s.data.toList = l ++ 58 :: m) (h : ∀ c ∈ l, c ≠ 58) :
    ∃ z1 z2 : ByteArray, strings_Cut.f s ⟨#[58]⟩ = some (z1, z2, true) ∧ z1.data.toList = l ∧ z2.data.toList = m := by
  have hsz := size_list s
  rw [hl, List.length_append, List.length_cons] at hsz
  refine ⟨s.extract 0 l.length, s.extract (l.length + 1) s.size, ?_, ?_, ?_⟩
  · unfold strings_Cut.f stringslite_Cut.f
    have e1 : wrap64 ((l.length : Int) + ((⟨#[58]⟩ : ByteArray).size : Int)) = ((l.length + 1 : Nat) : Int) := by
      rw [show ((⟨#[58]⟩ : ByteArray).size : Int) = 1 from rfl, wrap64_small _ (by omega) (by omega)]
      omega
    rw [show stringslite_Index.f s ⟨#[58]⟩ = some (Lib.indexByte s.data.toList 58) from rfl, hl, index_at l m h, Option.bind_some, if_pos (by omega), if_pos (by omega), if_pos (by omega), e1, if_pos (by omega), if_pos (by omega), Option.bind_some]
    rfl
  · rw [ByteArray.data_extract, Array.toList_extract, hl]
    simp
  · rw [ByteArray.data_extract, Array.toList_extract, hl]
    simp
    rw [List.take_of_length_le (by omega)]
theorem ofNat_toNat (n : Nat) (h : n < 256) : (UInt8.ofNat n).toNat = n := by
  rw [UInt8.toNat_ofNat']
  omega
theorem low_step (c p : Nat) (h : c.testBit p = true) : c % 2 ^ p ||| 2 ^ p = c % 2 ^ (p + 1) := by
  apply Nat.eq_of_testBit_eq
  intro i
  rw [Nat.testBit_or, Nat.testBit_two_pow, Nat.testBit_mod_two_pow, Nat.testBit_mod_two_pow]
  by_cases h1 : i = p
  · subst h1
    simp [h]
  · have h2 : decide (p = i) = false := by rw [decide_eq_false_iff_not]; omega
    have h3 : decide (i < p + 1) = decide (i < p) := by rw [decide_eq_decide]; omega
    rw [h2, h3, Bool.or_false]
theorem low_skip (c p : Nat) (h : c.testBit p = false) : c % 2 ^ p = c % 2 ^ (p + 1) := by
  apply Nat.eq_of_testBit_eq
  intro i
  rw [Nat.testBit_mod_two_pow, Nat.testBit_mod_two_pow]
  by_cases h1 : i = p
  · subst h1
    simp [h]
  · have h3 : decide (i < p + 1) = decide (i < p) := by rw [decide_eq_decide]; omega
    rw [h3]
theorem setCats_to (c p : Nat) (hp : p ≤ 26) (rest : List UInt8) : LabL.setCats (LabL.catsTo c p ++ rest) 0 = LabL.setCats rest (c % 2 ^ p) := by
  induction p generalizing rest with
  | zero => rw [show LabL.catsTo c 0 = [] from rfl, Nat.pow_zero, Nat.mod_one]; rfl
  | succ p ih =>
    cases h : c.testBit p with
    | false =>
      rw [LabL.catsTo_skip c p 1 (fun i h1 h2 => by rw [show i = p by omega]; exact h), ih (by omega), low_skip c p h]
    | true =>
      rw [LabL.catsTo_hit c p h, List.append_assoc, ih (by omega), List.singleton_append, LabL.setCats, ofNat_toNat _ (by omega), if_pos (by omega), show 97 + p - 97 = p by omega, low_step c p h]
theorem setCats_cats (c : Nat) (hc : c < 67108864) : LabL.setCats (LabL.cats c) 0 = some c := by
  have h := setCats_to c 26 (Nat.le_refl _) []
  rw [List.append_nil] at h
  unfold LabL.cats
  rw [h, LabL.setCats, Nat.mod_eq_of_lt (by have e : (2 : Nat) ^ 26 = 67108864 := by decide +kernel
                                            omega)]
def Ok (x : Int) (c : Nat) : Prop := 0 ≤ x ∧ x ≤ 15 ∧ c < 67108864
theorem valid_yes (x : Int) (c : Nat) (h : Ok x c) : label_Valid.f x (c : Int) = some none := by
  unfold label_Valid.f
  obtain ⟨h0, h1, h2⟩ := h
  rw [if_neg (by omega), if_neg (by omega), if_pos ((LabB.andNot_zero c (by omega)).2 h2)]
theorem valid_no (x : Int) (c : Nat) (hc : c < 4294967296) (h : ¬ Ok x c) : label_Valid.f x (c : Int) = some (some 20) := by
  unfold label_Valid.f
  by_cases h0 : x < 0
  · rw [if_pos h0]
  · rw [if_neg h0]
    by_cases h1 : x > 15
    · rw [if_pos h1]
    · rw [if_neg h1, if_neg]
      intro h2
      exact h ⟨by omega, by omega, (LabB.andNot_zero c hc).1 h2⟩
def textB (r c : Nat) : ByteArray := ⟨(label_textOf r c).toArray⟩
theorem text_yes (x : Int) (c : Nat) (h : Ok x c) : label_Text.f x (c : Int) = some (textB x.toNat c, none) := by
  unfold label_Text.f
  have h2 := h.2.2
  rw [if_pos (by omega), valid_yes x c h, Option.bind_some, if_pos (by rfl), Int.toNat_natCast]
  rfl
theorem text_no (x : Int) (c : Nat) (hc : c < 4294967296) (h : ¬ Ok x c) : label_Text.f x (c : Int) = some (ByteArray.empty, some 20) := by
  unfold label_Text.f
  rw [if_pos (by omega), valid_no x c hc h, Option.bind_some, if_neg (by simp)]
theorem textB_list (r c : Nat) (hr : r < 16) : (textB r c).data.toList = digs r ++ (if c = 0 then [] else 58 :: LabL.cats c) := by
  unfold textB label_textOf
  rw [dec_digs r hr, List.toList_toArray]
theorem textB_size (r c : Nat) (hr : r < 16) : (textB r c).size ≤ 100 := by
  have h1 := digs_len r
  have h2 := LabL.catsTo_len c 26
  rw [← size_list, textB_list r c hr, List.length_append]
  split
  · simp; omega
  · rw [List.length_cons]; unfold LabL.cats; omega
theorem byte_eq {a b : ByteArray} (h : a.data.toList = b.data.toList) : a = b := ByteArray.ext (Array.toList_inj.1 h)
/-- A label's text is read as it. -/
theorem parse_text (r c : Nat) (hr : r < 16) (hc : c < 67108864) : label_Parse.f (textB r c) = some ((r : Int), (c : Int), none) := by
  have hok : Ok (r : Int) c := ⟨by omega, by omega, hc⟩
  have hsz := textB_size r c hr
  have hl := textB_list r c hr
  have hend : parseOf (r : Int) (textB r c) (some c) = some ((r : Int), (c : Int), none) := by
    simp only [parseOf]
    rw [text_yes _ _ hok, Option.bind_some, if_pos ⟨rfl, by rw [Int.toNat_natCast]⟩]
  unfold label_Parse.f
  by_cases h0 : c = 0
  · rw [if_pos h0, List.append_nil] at hl
    rw [cut_no _ (by rw [hl]; exact digs_no r hr), Option.bind_some, if_pos ⟨by show (textB r c).size ≤ _; omega, by show (0 : Nat) ≤ _; omega⟩]
    dsimp only
    rw [hl, atoi_digs r hr, if_pos ⟨rfl, by show (r : Int) ≤ 15; omega⟩]
    have h1 : LabL.setCats (⟨#[]⟩ : ByteArray).data.toList 0 = some c := by rw [h0]; rfl
    rw [h1, hend]
  · rw [if_neg h0] at hl
    obtain ⟨z1, z2, hz, e1, e2⟩ := cut_at _ (by omega) _ _ hl (digs_no r hr)
    have hs1 : z1.size ≤ 2 := by rw [← size_list, e1]; exact digs_len r
    have hs2 : z2.size ≤ 26 := by rw [← size_list, e2]; exact LabL.catsTo_len c 26
    rw [hz, Option.bind_some, if_pos ⟨by show z1.size ≤ _; omega, by show z2.size ≤ _; omega⟩]
    dsimp only
    rw [e1, e2, atoi_digs r hr, if_pos ⟨rfl, by show (r : Int) ≤ 15; omega⟩, setCats_cats c hc, hend]
theorem setCats_lt : ∀ (l : List UInt8) (c d : Nat), c < 67108864 → LabL.setCats l c = some d → d < 67108864 := by
  intro l
  induction l with
  | nil => intro c d hc h; simp [LabL.setCats] at h; omega
  | cons b l ih =>
    intro c d hc h
    rw [LabL.setCats] at h
    by_cases hb : 97 ≤ b.toNat ∧ b.toNat ≤ 122
    · rw [if_pos hb] at h
      exact ih _ d (LabL.or_lt c (b.toNat - 97) hc (by omega)) h
    · rw [if_neg hb] at h
      cases h
/-- What is read is a label, and its text is what was read; or the error. -/
theorem parse_back (s : ByteArray) (hs : s.size ≤ 140737488355328) : (∃ r c : Nat, r < 16 ∧ c < 67108864 ∧ s = textB r c ∧ label_Parse.f s = some ((r : Int), (c : Int), none)) ∨ label_Parse.f s = some (0, 0, some 3) := by
  obtain ⟨z, hz, h1, h2⟩ : ∃ z : ByteArray × ByteArray × Bool, strings_Cut.f s ⟨#[58]⟩ = some z ∧ z.1.size ≤ 140737488355328 ∧ z.2.1.size ≤ 140737488355328 := by
    rcases parts s.data.toList with h | ⟨p, m, hl, h⟩
    · exact ⟨_, cut_no s h, hs, by show (0 : Nat) ≤ _; omega⟩
    · obtain ⟨z1, z2, hz, e1, e2⟩ := cut_at s hs p m hl h
      have hsz := size_list s
      rw [hl, List.length_append, List.length_cons] at hsz
      exact ⟨_, hz, by rw [← size_list, e1]; omega, by show z2.size ≤ _; rw [← size_list, e2]; omega⟩
  unfold label_Parse.f
  rw [hz, Option.bind_some, if_pos ⟨h1, h2⟩]
  by_cases ha : (Lab.atoiOf z.1.data.toList).2 = true ∧ (Lab.atoiOf z.1.data.toList).1 ≤ 15
  · rw [if_pos ha]
    generalize (Lab.atoiOf z.1.data.toList).1 = n at ha
    cases hc : LabL.setCats z.2.1.data.toList 0 with
    | none => exact .inr rfl
    | some c =>
      have hlt := setCats_lt _ 0 c (by omega) hc
      simp only [parseOf]
      by_cases hok : Ok n c
      · rw [text_yes n c hok, Option.bind_some]
        obtain ⟨r, rfl⟩ := Int.eq_ofNat_of_zero_le hok.1
        have h15 := hok.2.1
        rw [Int.toNat_natCast]
        by_cases ht : textB r c = s
        · rw [if_pos ⟨rfl, ht⟩]
          exact .inl ⟨r, c, by omega, hlt, ht.symm, rfl⟩
        · rw [if_neg (fun h => ht h.2)]
          exact .inr rfl
      · rw [text_no n c (by omega) hok, Option.bind_some, if_neg (by simp)]
        exact .inr rfl
  · rw [if_neg ha]
    exact .inr rfl
theorem has_f (r : Int) (c : Nat) (hc : c < 4294967296) (i : Nat) (hi : i < 32) : barbicanref01_Has.f r (c : Int) (i : Int) = some (c.testBit i) := by
  unfold barbicanref01_Has.f
  have e1 : IntKind.u64.wrap (i : Int) = (i : Int) := by rw [IntKind.wrap_u64]; omega
  have e2 : shr .u32 (c : Int) (i : Int) = ((c / 2 ^ i : Nat) : Int) := by
    unfold shr
    rw [Int.toNat_natCast, show IntKind.u32.bits = 32 from rfl, Nat.min_eq_left (by omega)]
    rw [Int.natCast_ediv, Int.natCast_pow]
    rfl
  have hlt : c / 2 ^ i ≤ c := Nat.div_le_self _ _
  rw [e1, if_pos (by omega), e2, show ((1 : Int)) = ((1 : Nat) : Int) from rfl, u32_and_nat _ 1 (by omega) (by omega), Nat.and_one_is_mod]
  congr 1
  rw [Nat.testBit_eq_decide_div_mod_eq, Bool.eq_iff_iff, beq_iff_eq, decide_eq_true_iff]
  omega
theorem step64 (i : Nat) (h : i < 9223372036854775000) : wrap64 ((i : Int) + 1) = ((i + 1 : Nat) : Int) := by rw [wrap64_small _ (by omega) (by omega)]; omega
theorem rvalid_yes (x : Int) (c : Nat) (hc : c < 67108864) (d : Nat) : ∀ k i : Nat, i + d = 32 → 26 ≤ i → d < k →
    barbicanref01_Valid.l0 k (i : Int) x (c : Int) = some (if x < 0 then 20 else if x > 15 then 20 else 0) := by
  induction d with
  | zero =>
    intro k i hi hi2 hk
    obtain ⟨k, rfl⟩ : ∃ q, k = q + 1 := ⟨k - 1, by omega⟩
    simp only [barbicanref01_Valid.l0]
    rw [if_neg (by omega)]
    split
    · rfl
    · split <;> rfl
  | succ d ih =>
    intro k i hi hi2 hk
    obtain ⟨k, rfl⟩ : ∃ q, k = q + 1 := ⟨k - 1, by omega⟩
    have hr := ih k (i + 1) (by omega) (by omega) (by omega)
    have hb : c.testBit i = false := Nat.testBit_lt_two_pow (Nat.lt_of_lt_of_le (show c < 2 ^ 26 by have e : (2 : Nat) ^ 26 = 67108864 := by decide +kernel
                                                                                                    omega) (Nat.pow_le_pow_right (by decide) hi2))
    simp only [barbicanref01_Valid.l0]
    rw [if_pos (by omega), has_f x c (by omega) i (by omega), Option.bind_some, hb, if_neg (by decide), step64 i (by omega), hr]
theorem rvalid_no (x : Int) (c : Nat) (hc : c < 4294967296) (j : Nat) (hj : j < 32) (hb : c.testBit j = true) (d : Nat) : ∀ k i : Nat, i + d = j → d < k →
    barbicanref01_Valid.l0 k (i : Int) x (c : Int) = some 20 := by
  induction d with
  | zero =>
    intro k i hi hk
    obtain ⟨k, rfl⟩ : ∃ q, k = q + 1 := ⟨k - 1, by omega⟩
    obtain rfl : i = j := by omega
    simp only [barbicanref01_Valid.l0]
    rw [if_pos (by omega), has_f x c hc i hj, Option.bind_some, if_pos hb]
  | succ d ih =>
    intro k i hi hk
    obtain ⟨k, rfl⟩ : ∃ q, k = q + 1 := ⟨k - 1, by omega⟩
    have hr := ih k (i + 1) (by omega) (by omega)
    simp only [barbicanref01_Valid.l0]
    rw [if_pos (by omega), has_f x c hc i (by omega), Option.bind_some, step64 i (by omega), hr]
    split <;> rfl
theorem rvalid_ok (k : Nat) (x : Int) (c : Nat) (hk : 40 ≤ k) (h : Ok x c) : barbicanref01_Valid.f k x (c : Int) = some 0 := by
  obtain ⟨h0, h1, h2⟩ := h
  unfold barbicanref01_Valid.f
  have h := rvalid_yes x c h2 6 k 26 (by omega) (by omega) (by omega)
  rw [if_neg (by omega), if_neg (by omega)] at h
  exact h
theorem rvalid_bad (k : Nat) (x : Int) (c : Nat) (hc : c < 4294967296) (hk : 40 ≤ k) (h : ¬ Ok x c) : barbicanref01_Valid.f k x (c : Int) = some 20 := by
  unfold barbicanref01_Valid.f
  by_cases h2 : c < 67108864
  · have h3 := rvalid_yes x c h2 6 k 26 (by omega) (by omega) (by omega)
    by_cases h0 : x < 0
    · rw [if_pos h0] at h3
      exact h3
    · rw [if_neg h0] at h3
      by_cases h1 : x > 15
      · rw [if_pos h1] at h3
        exact h3
      · exact absurd ⟨by omega, by omega, h2⟩ h
  · have e26 : (2 : Nat) ^ 26 = 67108864 := by decide +kernel
    obtain ⟨j, hj, hb⟩ := Nat.exists_ge_and_testBit_of_ge_two_pow (x := c) (n := 26) (by omega)
    clear e26
    have hlt : j < 32 := by
      rcases Nat.lt_or_ge j 32 with h | h
      · exact h
      · exfalso
        rw [Nat.testBit_lt_two_pow (Nat.lt_of_lt_of_le (show c < 2 ^ 32 by have e : (2 : Nat) ^ 32 = 4294967296 := by decide +kernel
                                                                           omega) (Nat.pow_le_pow_right (by decide) h))] at hb
        cases hb
    exact rvalid_no x c hc j hlt hb (j - 26) k 26 (by omega) (by omega)
theorem digit_at (d : Nat) (h : d < 10) : ((⟨#[48, 49, 50, 51, 52, 53, 54, 55, 56, 57]⟩ : ByteArray).extract d (d + 1)).data.toList = [UInt8.ofNat (48 + d)] := by
  have h1 : ∀ d : Fin 10, ((⟨#[48, 49, 50, 51, 52, 53, 54, 55, 56, 57]⟩ : ByteArray).extract d.val (d.val + 1)).data.toList = [UInt8.ofNat (48 + d.val)] := by decide +kernel
  exact h1 ⟨d, h⟩
theorem letter_at (d : Nat) (h : d < 26) : ((⟨#[97, 98, 99, 100, 101, 102, 103, 104, 105, 106, 107, 108, 109, 110, 111, 112, 113, 114, 115, 116, 117, 118, 119, 120, 121, 122]⟩ : ByteArray).extract d (d + 1)).data.toList = [UInt8.ofNat (97 + d)] := by
  have h1 : ∀ d : Fin 26, ((⟨#[97, 98, 99, 100, 101, 102, 103, 104, 105, 106, 107, 108, 109, 110, 111, 112, 113, 114, 115, 116, 117, 118, 119, 120, 121, 122]⟩ : ByteArray).extract d.val (d.val + 1)).data.toList = [UInt8.ofNat (97 + d.val)] := by decide +kernel
  exact h1 ⟨d, h⟩
theorem cat_list (a b : ByteArray) : (a ++ b).data.toList = a.data.toList ++ b.data.toList := by simp
theorem cats_nil (c : Nat) (hc : c < 67108864) : LabL.cats c = [] ↔ c = 0 := by
  constructor
  · intro h
    have h1 := setCats_cats c hc
    rw [h, LabL.setCats] at h1
    simpa using h1.symm
  · rintro rfl
    decide +kernel
theorem rtext_l (r : Nat) (hr : r < 16) (c : Nat) (hc : c < 67108864) (d : Nat) : ∀ (k p : Nat) (s m : ByteArray), p + d = 26 → d < k →
    s.data.toList = digs r ++ (if LabL.catsTo c p = [] then [] else 58 :: LabL.catsTo c p) → m.data.toList = (if LabL.catsTo c p = [] then [58] else []) →
    barbicanref01_Text.l0 k s m (p : Int) (r : Int) (c : Int) = some (textB r c, 0) := by
  induction d with
  | zero =>
    intro k p s m hp hk hs hm
    obtain ⟨k, rfl⟩ : ∃ q, k = q + 1 := ⟨k - 1, by omega⟩
    obtain rfl : p = 26 := by omega
    simp only [barbicanref01_Text.l0]
    rw [if_neg (by omega)]
    have h1 : s = textB r c := by
      apply byte_eq
      rw [textB_list r c hr, hs]
      have h2 := cats_nil c hc
      unfold LabL.cats at h2 ⊢
      by_cases h0 : c = 0
      · rw [if_pos h0, if_pos (h2.2 h0)]
      · rw [if_neg h0, if_neg (fun h => h0 (h2.1 h))]
    rw [h1]
  | succ d ih =>
    intro k p s m hp hk hs hm
    obtain ⟨k, rfl⟩ : ∃ q, k = q + 1 := ⟨k - 1, by omega⟩
    have hcl := LabL.catsTo_len c p
    have hdl := digs_len r
    have hss : s.size ≤ 29 := by
      rw [← size_list, hs, List.length_append]
      split
      · simp; omega
      · rw [List.length_cons]; omega
    have hms : m.size ≤ 1 := by
      rw [← size_list, hm]
      split <;> simp
    simp only [barbicanref01_Text.l0]
    rw [if_pos (by omega), has_f (r : Int) c (by omega) p (by omega), Option.bind_some, step64 p (by omega)]
    cases hb : c.testBit p with
    | false =>
      have hsk := LabL.catsTo_skip c p 1 (fun i h1 h2 => by rw [show i = p by omega]; exact hb)
      rw [if_neg (by decide)]
      exact ih k (p + 1) s m (by omega) (by omega) (by rw [hsk]; exact hs) (by rw [hsk]; exact hm)
    | true =>
      have hh := LabL.catsTo_hit c p hb
      have hle := letter_at p (by omega)
      have hne : LabL.catsTo c (p + 1) ≠ [] := by rw [hh]; simp
      rw [if_pos rfl, if_pos (by omega), if_pos (by omega), if_pos (by omega), if_pos (by omega), Int.toNat_natCast, Int.toNat_natCast]
      have hsz : (s ++ m).size ≤ 30 := by rw [← size_list, cat_list, List.length_append, size_list, size_list]; omega
      have hl1 : ((⟨#[97, 98, 99, 100, 101, 102, 103, 104, 105, 106, 107, 108, 109, 110, 111, 112, 113, 114, 115, 116, 117, 118, 119, 120, 121, 122]⟩ : ByteArray).extract p (p + 1)).size = 1 := by rw [← size_list, hle]; rfl
      rw [if_pos (by omega)]
      refine ih k (p + 1) _ _ (by omega) (by omega) ?_ ?_
      · rw [cat_list, cat_list, hle, hs, hm, if_neg hne, hh]
        by_cases h0 : LabL.catsTo c p = []
        · rw [if_pos h0, if_pos h0, h0]; simp
        · rw [if_neg h0, if_neg h0]; simp
      · rw [if_neg hne]
theorem rtext_ok (k : Nat) (x : Int) (c : Nat) (hk : 50 ≤ k) (h : Ok x c) : barbicanref01_Text.f k x (c : Int) = some (textB x.toNat c, 0) := by
  have hv := rvalid_ok k x c (by omega) h
  obtain ⟨r, rfl⟩ := Int.eq_ofNat_of_zero_le h.1
  have h15 := h.2.1
  have hc := h.2.2
  have hr : r < 16 := by omega
  obtain ⟨q, rfl⟩ : ∃ q, k = q + 1 := ⟨k - 1, by omega⟩
  unfold barbicanref01_Text.f
  have e1 : Int.tmod (r : Int) 10 = ((r % 10 : Nat) : Int) := by rw [Int.tmod_eq_emod_of_nonneg (by omega)]; omega
  have hd := digit_at (r % 10) (by omega)
  have hds : ((⟨#[48, 49, 50, 51, 52, 53, 54, 55, 56, 57]⟩ : ByteArray).extract (r % 10) (r % 10 + 1)).size = 1 := by rw [← size_list, hd]; rfl
  rw [hv, Option.bind_some, if_pos rfl, e1, step64 (r % 10) (by omega), if_pos (by omega), if_pos (by omega), if_pos (by omega), Int.toNat_natCast, Int.toNat_natCast, Int.toNat_natCast]
  have h0 : LabL.catsTo c 0 = [] := rfl
  by_cases h9 : (r : Int) > 9
  · rw [if_pos h9, if_pos (by omega)]
    simp only [barbicanref01_Text.j0]
    refine rtext_l r hr c hc 26 q 0 _ _ (by omega) (by omega) ?_ ?_
    · rw [if_pos h0, cat_list, hd]
      unfold digs
      rw [if_neg (by omega), show r % 10 = r - 10 by omega]
      simp
    · rw [if_pos h0]
  · rw [if_neg h9]
    simp only [barbicanref01_Text.j0]
    refine rtext_l r hr c hc 26 q 0 _ _ (by omega) (by omega) ?_ ?_
    · rw [if_pos h0, hd]
      unfold digs
      rw [if_pos (by omega), show r % 10 = r by omega]
      simp
    · rw [if_pos h0]
theorem rtext_bad (k : Nat) (x : Int) (c : Nat) (hc : c < 4294967296) (hk : 50 ≤ k) (h : ¬ Ok x c) : barbicanref01_Text.f k x (c : Int) = some (⟨#[]⟩, 20) := by
  unfold barbicanref01_Text.f
  rw [rvalid_bad k x c hc (by omega) h, Option.bind_some, if_neg (by decide)]
end LabP
end Go.Proofs.YtgcaalgaellciaaGreatDoor.Pure
namespace Go.Proofs.YtgcaalgaellciaaGreatDoor.Pure
open Go.RowKit Go.Proofs.YtgcaalgaellciaaGreatDoor.XLam Go.Proofs.YtgcaalgaellciaaGreatDoorW.PrintWords Go.Proofs.YtgcaalgaellciaaGreatDoorW.PrintLast Go.Proofs.YtgcaalgaellciaaGreatDoorW.PrintMore
set_option linter.unusedVariables false
set_option linter.unusedSimpArgs false
namespace LatA
abbrev L := S37
/-- From some fuel on, true. -/
def Ev (F : Nat → Option Bool) : Prop := ∃ k0, ∀ k, k0 ≤ k → F k = some true
theorem Ev.of {F G : Nat → Option Bool} (h : ∀ k, F k = G k) (hG : Ev G) : Ev F := by
  obtain ⟨k0, hk⟩ := hG
  exact ⟨k0, fun k h1 => (h k).trans (hk k h1)⟩
theorem Ev.succ {F G : Nat → Option Bool} (h : ∀ k, F (k + 1) = G k) (hG : Ev G) : Ev F := by
  obtain ⟨k0, hk⟩ := hG
  refine ⟨k0 + 1, fun k h1 => ?_⟩
  obtain ⟨q, rfl⟩ : ∃ q, k = q + 1 := ⟨k - 1, by omega⟩
  exact (h q).trans (hk q (by omega))
theorem Ev.true_ : Ev fun _ => some true := ⟨0, fun _ _ => rfl⟩
theorem Ev.ex {F : Nat → Option Bool} (h : Ev F) : ∃ k, F k = some true := by
  obtain ⟨k0, hk⟩ := h
  exact ⟨k0, hk k0 (Nat.le_refl _)⟩
theorem sure10 : barbicanlaw02_sure.f 10 = some true := by kernel_rfl
theorem sure_ev : Ev barbicanlaw02_sure.f := by
  refine ⟨10, fun k hk => ?_⟩
  induction k with
  | zero => omega
  | succ k ih =>
    by_cases h : k + 1 = 10
    · rw [h]; exact sure10
    · exact barbicanlaw02_sure.mono k _ (ih (by omega))
theorem u32_wf {n : Int} (h : (Lit.int .u32 n).wf = true) : 0 ≤ n ∧ n < 4294967296 := by
  simp [Lit.wf, IntKind.min, IntKind.max, IntKind.bits, IntKind.signed] at h
  omega
theorem wrap64_small (x : Int) (h0 : -9223372036854775808 ≤ x) (h1 : x < 9223372036854775808) : wrap64 x = x := by
  unfold wrap64
  omega
/-- A label's categories as a number. -/
def ct (x : L) : Nat := x.f1.toNat
def U (x : L) : Prop := 0 ≤ x.f1 ∧ x.f1 < 4294967296
theorem U.ct {x : L} (h : U x) : x.f1 = ((ct x : Nat) : Int) ∧ LatA.ct x < 4294967296 := by
  have h1 := h.1
  have h2 := h.2
  unfold LatA.ct
  omega
/-- The label at a place. -/
def at_ (ls : List L) (i : Nat) : L := ls.getD i z37
theorem at_mem (ls : List L) (i : Nat) (h : i < ls.length) : at_ ls i ∈ ls := by
  unfold at_
  rw [List.getD_eq_getElem?_getD, List.getElem?_eq_getElem h]
  exact List.getElem_mem h
theorem rd_at (ls : List L) (i : Nat) : rd_T37 ls (i : Int) = at_ ls i := by
  unfold rd_T37 at_
  rw [Int.toNat_natCast]
/-- Labels that a lattice is made of: few, each once. -/
structure Ok (ls : List L) : Prop where
  u : ∀ x ∈ ls, U x
  few : ls.length ≤ 16
  once : ∀ i j, i < ls.length → j < ls.length → at_ ls i = at_ ls j → i = j
/-- From some fuel on, this. -/
def EvV {α : Type} (F : Nat → Option α) (a : α) : Prop := ∃ k0, ∀ k, k0 ≤ k → F k = some a
theorem EvV.of {α : Type} {F G : Nat → Option α} {a : α} (h : ∀ k, F k = G k) (hG : EvV G a) : EvV F a := by
  obtain ⟨k0, hk⟩ := hG
  exact ⟨k0, fun k h1 => (h k).trans (hk k h1)⟩
theorem EvV.succ {α : Type} {F G : Nat → Option α} {a : α} (h : ∀ k, F (k + 1) = G k) (hG : EvV G a) : EvV F a := by
  obtain ⟨k0, hk⟩ := hG
  refine ⟨k0 + 1, fun k h1 => ?_⟩
  obtain ⟨q, rfl⟩ : ∃ q, k = q + 1 := ⟨k - 1, by omega⟩
  exact (h q).trans (hk q (by omega))
theorem EvV.bind {α β : Type} {F : Nat → Option α} {H : Nat → α → Option β} {a : α} {b : β} (hF : EvV F a) (hH : EvV (fun k => H k a) b) : EvV (fun k => (F k).bind (H k)) b := by
  obtain ⟨k0, h0⟩ := hF
  obtain ⟨k1, h1⟩ := hH
  refine ⟨max k0 k1, fun k hk => ?_⟩
  show (F k).bind (H k) = _
  rw [h0 k (by omega), Option.bind_some]
  exact h1 k (by omega)
theorem EvV.const {α : Type} (a : α) : EvV (fun _ => some a) a := ⟨0, fun _ _ => rfl⟩
theorem Ev.v {F : Nat → Option Bool} (h : Ev F) : EvV F true := h
theorem EvV.ev {F : Nat → Option Bool} (h : EvV F true) : Ev F := h
theorem rdT_mem (ls : List L) (i : Int) (h0 : 0 ≤ i) (h1 : i < ls.length) : rd_T37 ls i ∈ ls := by
  obtain ⟨q, rfl⟩ := Int.eq_ofNat_of_zero_le h0
  rw [rd_at]
  exact at_mem ls q (by omega)
theorem wr1' (i : Nat) (h : i < 9223372036854775807) : wrap64 ((i : Int) + 1) = ((i + 1 : Nat) : Int) := by
  rw [wrap64_small _ (by omega) (by omega)]
  omega
theorem dup_at : ∀ (l pre : List L), latDup pre l = false → (∀ i, i < l.length → ∀ y ∈ pre, y ≠ at_ l i) ∧ ∀ i j, i < j → j < l.length → at_ l i ≠ at_ l j
  | [], pre, _ => ⟨fun i hi => by simp at hi, fun i j _ hj => by simp at hj⟩
  | x :: l, pre, h => by
    have h1 : (pre.any (fun y => latSame y x) || latDup (pre ++ [x]) l) = false := h
    rw [Bool.or_eq_false_iff] at h1
    obtain ⟨h2, h3⟩ := dup_at l (pre ++ [x]) h1.2
    have hx : ∀ y ∈ pre, y ≠ x := fun y hy e => by
      have := List.any_eq_false.1 h1.1 y hy
      exact this ((latSame_iff y x).2 e)
    constructor
    · intro i hi y hy
      cases i with
      | zero => exact hx y hy
      | succ i => exact h2 i (by simpa using hi) y (List.mem_append_left _ hy)
    · intro i j hij hj
      cases j with
      | zero => omega
      | succ j =>
        cases i with
        | zero => exact h2 j (by simpa using hj) x (by simp)
        | succ i => exact h3 i j (by omega) (by simpa using hj)
/-- What a new lattice's labels are. -/
theorem new_ok {ls : List L} (hu : ∀ x ∈ ls, U x) (h : latNew ls = none) : ls ≠ [] ∧ Ok ls ∧ (∀ x ∈ ls, 0 ≤ x.f0 ∧ x.f0 ≤ 15 ∧ label_Valid.f x.f0 x.f1 = some none) := by
  unfold latNew at h
  by_cases h1 : ls = []
  · rw [if_pos h1] at h; cases h
  rw [if_neg h1] at h
  by_cases h2 : ls.length > 16
  · rw [if_pos h2] at h; cases h
  rw [if_neg h2] at h
  by_cases h3 : latBad ls = true
  · rw [if_pos h3] at h; cases h
  rw [if_neg h3] at h
  by_cases h4 : latDup [] ls = true
  · rw [if_pos h4] at h; cases h
  have h5 := (dup_at ls [] (by simpa using h4)).2
  have hv : ∀ x ∈ ls, label_Valid.f x.f0 x.f1 = some none := fun x hx => Classical.byContradiction fun hn => h3 (List.any_eq_true.2 ⟨x, hx, by simpa using hn⟩)
  refine ⟨h1, ⟨hu, by omega, fun i j hi hj e => ?_⟩, fun x hx => ?_⟩
  · rcases Nat.lt_trichotomy i j with hlt | heq | hlt
    · exact absurd e (h5 i j hlt hj)
    · exact heq
    · exact absurd e.symm (h5 j i hlt hi)
  · have h6 := hv x hx
    refine ⟨?_, ?_, h6⟩
    all_goals
      unfold label_Valid.f at h6
      split at h6
      · simp at h6
      · split at h6
        · simp at h6
        · omega
theorem u32_f {ls : List L} (hu : ∀ x ∈ ls, U x) : latU32 ls = true := List.all_eq_true.2 fun x hx => decide_eq_true (hu x hx)
theorem new_f {ls : List L} (hu : ∀ x ∈ ls, U x) : lattice_New.f ls = some (latMade ls, latNew ls) := by
  unfold lattice_New.f
  rw [if_pos (u32_f hu)]
theorem twin_f (ls : List L) (h : ls.length < 8796093022208) : barbicanlaw02_twin.f ls = some ls := by
  unfold barbicanlaw02_twin.f
  rw [if_pos (by simpa using h), List.nil_append]
end LatA
end Go.Proofs.YtgcaalgaellciaaGreatDoor.Pure
namespace Go.Proofs.YtgcaalgaellciaaGreatDoor.Pure
open Go.RowKit Go.Proofs.YtgcaalgaellciaaGreatDoor.XLam Go.Proofs.YtgcaalgaellciaaGreatDoorW.PrintWords Go.Proofs.YtgcaalgaellciaaGreatDoorW.PrintLast Go.Proofs.YtgcaalgaellciaaGreatDoorW.PrintMore
set_option linter.unusedVariables false
set_option linter.unusedSimpArgs false
namespace LatA
theorem bind_id {α : Type} (o : Option α) : (o.bind fun t => some t) = o := by cases o <;> rfl
theorem new_num {l0 : List L} {e : Int} (h : latNew l0 = some e) : e ≠ 0 := by
  unfold latNew at h
  split at h
  · injection h; omega
  · split at h
    · injection h; omega
    · split at h
      · injection h; omega
      · split at h
        · injection h; omega
        · cases h
theorem valid_ok {x : L} (hx : U x) (h : label_Valid.f x.f0 x.f1 = some none) : LabP.Ok x.f0 (ct x) := by
  obtain ⟨h1, h2⟩ := hx.ct
  refine Classical.byContradiction fun hn => ?_
  have h3 := LabP.valid_no _ _ h2 hn
  rw [← h1, h] at h3
  cases h3
theorem drop_at (ls : List L) (i : Nat) (h : i < ls.length) : ls.drop i = at_ ls i :: ls.drop (i + 1) := by
  rw [List.drop_eq_getElem_cons h]
  unfold at_
  rw [List.getD_eq_getElem?_getD, List.getElem?_eq_getElem h]
  rfl
theorem take_at (ls : List L) (i : Nat) (h : i < ls.length) : ls.take (i + 1) = ls.take i ++ [at_ ls i] := by
  rw [List.take_add_one, List.getElem?_eq_getElem h]
  unfold at_
  rw [List.getD_eq_getElem?_getD, List.getElem?_eq_getElem h]
  rfl
theorem rvalid_ev (x : L) (hx : U x) : EvV (fun k => barbicanref01_Valid.f k x.f0 x.f1) (if label_Valid.f x.f0 x.f1 = some none then 0 else 20) := by
  obtain ⟨h1, h2⟩ := hx.ct
  refine ⟨40, fun k hk => ?_⟩
  show barbicanref01_Valid.f k x.f0 x.f1 = _
  rw [h1]
  by_cases h : LabP.Ok x.f0 (ct x)
  · rw [LabP.rvalid_ok k _ _ hk h, LabP.valid_yes _ _ h, if_pos rfl]
  · rw [LabP.rvalid_bad k _ _ h2 hk h, LabP.valid_no _ _ h2 h, if_neg (by simp)]
theorem rnew_l0 {ls : List L} (hu : ∀ x ∈ ls, U x) (hf : ls.length ≤ 16) (v : Int) (hn : EvV (fun k => barbicanref02_New.l1 k ls 0) v) : ∀ (d i : Nat), i + d = ls.length → EvV (fun k => barbicanref02_New.l0 k ls (i : Int)) (if latBad (ls.drop i) = true then 20 else v)
  | 0, i, hi => by
    rw [List.drop_eq_nil_of_le (by omega)]
    refine EvV.succ (fun k => ?_) hn
    simp only [barbicanref02_New.l0]
    rw [if_neg (by omega)]
  | d + 1, i, hi => by
    have ih := rnew_l0 hu hf v hn d (i + 1) (by omega)
    have hm := at_mem ls i (by omega)
    refine EvV.succ (fun k => by simp only [barbicanref02_New.l0]; rw [if_pos (by omega), if_pos (by omega), rd_at, wr1' i (by omega)]) (EvV.bind (rvalid_ev _ (hu _ hm)) ?_)
    by_cases hv : label_Valid.f (at_ ls i).f0 (at_ ls i).f1 = some none
    · have e : latBad (ls.drop i) = latBad (ls.drop (i + 1)) := by
        rw [drop_at ls i (by omega)]
        unfold latBad
        rw [List.any_cons, decide_eq_false (fun h => h hv), Bool.false_or]
      rw [if_pos hv, e]
      refine EvV.of (fun k => ?_) ih
      show (if (0 : Int) = 0 then _ else _) = _
      rw [if_pos rfl]
    · have e : latBad (ls.drop i) = true := by
        rw [drop_at ls i (by omega)]
        unfold latBad
        rw [List.any_cons, decide_eq_true hv, Bool.true_or]
      rw [if_neg hv, if_pos e]
      refine EvV.of (fun k => ?_) (EvV.const _)
      show (if (20 : Int) = 0 then _ else _) = _
      rw [if_neg (by omega)]
theorem rnew_l2 {ls : List L} (hf : ls.length ≤ 16) (i : Nat) (hi : i < ls.length) (v : Int) (hn : EvV (fun k => barbicanref02_New.l1 k ls ((i + 1 : Nat) : Int)) v) : ∀ (d j : Nat), j + d = i → EvV (fun k => barbicanref02_New.l2 k ls (i : Int) (j : Int)) (if (((ls.take i).drop j).any fun y => latSame y (at_ ls i)) = true then 9 else v)
  | 0, j, hj => by
    rw [List.drop_eq_nil_of_le (by rw [List.length_take]; omega)]
    refine EvV.succ (fun k => ?_) hn
    simp only [barbicanref02_New.l2]
    rw [if_neg (by omega), wr1' i (by omega)]
  | d + 1, j, hj => by
    have ih := rnew_l2 hf i hi v hn d (j + 1) (by omega)
    have hd : (ls.take i).drop j = at_ ls j :: (ls.take i).drop (j + 1) := by
      have hl : j < (ls.take i).length := by rw [List.length_take]; omega
      rw [List.drop_eq_getElem_cons hl]
      unfold at_
      rw [List.getElem_take, List.getD_eq_getElem?_getD, List.getElem?_eq_getElem (by omega)]
      rfl
    rw [hd, List.any_cons]
    cases hs : latSame (at_ ls j) (at_ ls i) with
    | true =>
      refine EvV.succ (G := fun _ => some 9) (fun k => ?_) (EvV.const _)
      simp only [barbicanref02_New.l2]
      rw [if_pos (by omega), if_pos (by omega), if_pos (by omega), if_pos (by omega), if_pos (by omega), rd_at, rd_at]
      exact if_pos hs
    | false =>
      rw [Bool.false_or]
      refine EvV.succ (fun k => ?_) ih
      simp only [barbicanref02_New.l2]
      rw [if_pos (by omega), if_pos (by omega), if_pos (by omega), if_pos (by omega), if_pos (by omega), rd_at, rd_at, wr1' j (by omega)]
      exact if_neg (fun h => by rw [show latSame (at_ ls j) (at_ ls i) = true from h] at hs; cases hs)
theorem rnew_l1 {ls : List L} (hf : ls.length ≤ 16) : ∀ (d i : Nat), i + d = ls.length → EvV (fun k => barbicanref02_New.l1 k ls (i : Int)) (if latDup (ls.take i) (ls.drop i) = true then 9 else 0)
  | 0, i, hi => by
    rw [List.drop_eq_nil_of_le (by omega)]
    refine EvV.succ (G := fun _ => some 0) (fun k => ?_) (EvV.const _)
    simp only [barbicanref02_New.l1]
    rw [if_neg (by omega)]
  | d + 1, i, hi => by
    have ih := rnew_l1 hf d (i + 1) (by omega)
    have h2 := rnew_l2 hf i (by omega) _ ih i 0 (Nat.zero_add _)
    have e : (if latDup (ls.take i) (ls.drop i) = true then (9 : Int) else 0) = if (((ls.take i).drop 0).any fun y => latSame y (at_ ls i)) = true then 9 else if latDup (ls.take (i + 1)) (ls.drop (i + 1)) = true then 9 else 0 := by
      rw [drop_at ls i (by omega), latDup, List.drop_zero, take_at ls i (by omega)]
      cases ((ls.take i).any fun y => latSame y (at_ ls i)) <;> simp
    rw [e]
    refine EvV.succ (fun k => ?_) h2
    simp only [barbicanref02_New.l1]
    rw [if_pos (by omega)]
    rfl
theorem rnew_f {ls : List L} (hu : ∀ x ∈ ls, U x) : EvV (fun k => barbicanref02_New.f k ls) ((latNew ls).getD 0) := by
  unfold latNew
  by_cases h0 : ls = []
  · subst h0
    exact EvV.of (fun k => rfl) (EvV.const _)
  · have hl : ls.length ≠ 0 := fun h => h0 (List.length_eq_zero_iff.1 h)
    rw [if_neg h0]
    by_cases h1 : ls.length > 16
    · rw [if_pos h1]
      exact EvV.of (fun k => by unfold barbicanref02_New.f; rw [if_neg (show ¬ (ls.length : Int) = 0 by omega), if_pos (show (ls.length : Int) > 16 by omega)]; rfl) (EvV.const _)
    · rw [if_neg h1]
      have h2 := rnew_l1 (ls := ls) (by omega) ls.length 0 (Nat.zero_add _)
      have h3 := rnew_l0 hu (by omega) _ h2 ls.length 0 (Nat.zero_add _)
      rw [List.drop_zero, List.take_zero] at h3
      have e : (if latBad ls = true then some 20 else if latDup [] ls = true then some 9 else none).getD 0 = if latBad ls = true then (20 : Int) else if latDup [] ls = true then 9 else 0 := by
        split
        · rfl
        · split <;> rfl
      rw [e]
      exact EvV.of (fun k => by unfold barbicanref02_New.f; rw [if_neg (show ¬ (ls.length : Int) = 0 by omega), if_neg (show ¬ (ls.length : Int) > 16 by omega)]; rfl) h3
/-- A label's text, and those of all. -/
def tx (x : L) : List UInt8 := (LabP.textB x.f0.toNat (ct x)).data.toList
def txs (l : List L) : List (List UInt8) := l.map tx
theorem tx_len (x : L) (h : LabP.Ok x.f0 (ct x)) : (tx x).length ≤ 100 := by
  have h1 := h.1
  have h2 := h.2.1
  exact LabP.textB_size _ _ (by omega)
theorem join_snoc (l : List (List UInt8)) (t : List UInt8) (hl : l ≠ []) : Lib.join (l ++ [t]) [32] = Lib.join l [32] ++ [32] ++ t := by
  cases l with
  | nil => exact absurd rfl hl
  | cons x l => rw [List.cons_append, Lib.join_cons, Lib.join_cons, Lib.joinTail, Lib.joinTail, List.map_append, List.flatten_append]; simp
theorem txs_len : ∀ (l : List L), (∀ x ∈ l, LabP.Ok x.f0 (ct x)) → (Lib.join (txs l) [32]).length ≤ 101 * l.length
  | [], _ => by simp [txs, Lib.join]
  | x :: l, h => by
    have e : Lib.join (txs (x :: l)) [32] = tx x ++ Lib.joinTail [32] (txs l) := by unfold txs; rw [List.map_cons, Lib.join_cons]
    have h1 := tx_len x (h x (by simp))
    have h2 : ∀ l : List L, (∀ x ∈ l, LabP.Ok x.f0 (ct x)) → (Lib.joinTail [32] (txs l)).length ≤ 101 * l.length := by
      intro l
      induction l with
      | nil => intro _; simp [txs, Lib.joinTail]
      | cons y l ih =>
        intro h
        have h3 := ih (fun x hx => h x (by simp [hx]))
        have h4 := tx_len y (h y (by simp))
        unfold txs Lib.joinTail at h3 ⊢
        simp only [List.map_cons, List.flatten_cons, List.length_append, List.length_cons, List.length_nil]
        omega
    have h3 := h2 l (fun x hx => h x (by simp [hx]))
    rw [e, List.length_append, List.length_cons]
    omega
theorem latTexts_f : ∀ (l : List L), (∀ x ∈ l, U x) → (∀ x ∈ l, LabP.Ok x.f0 (ct x)) → latTexts l = some (l.map fun x => LabP.textB x.f0.toNat (ct x))
  | [], _, _ => rfl
  | x :: l, hu, hv => by
    obtain ⟨h1, h2⟩ := (hu x (by simp)).ct
    have ih := latTexts_f l (fun y hy => hu y (by simp [hy])) (fun y hy => hv y (by simp [hy]))
    have ht := LabP.text_yes x.f0 (ct x) (hv x (by simp))
    rw [← h1] at ht
    simp only [latTexts]
    rw [ht, ih]
    rfl
theorem rtext_ev {x : L} (hx : U x) (h : LabP.Ok x.f0 (ct x)) : EvV (fun k => barbicanref01_Text.f k x.f0 x.f1) (LabP.textB x.f0.toNat (ct x), 0) := by
  obtain ⟨h1, h2⟩ := hx.ct
  refine ⟨50, fun k hk => ?_⟩
  show barbicanref01_Text.f k x.f0 x.f1 = _
  rw [h1]
  exact LabP.rtext_ok k _ _ hk h
theorem rtext_l {ls : List L} (hf : ls.length ≤ 16) (hu : ∀ x ∈ ls, U x) (hv : ∀ x ∈ ls, LabP.Ok x.f0 (ct x)) : ∀ (d i : Nat) (s : ByteArray), i + d = ls.length → s.data.toList = Lib.join (txs (ls.take i)) [32] → EvV (fun k => barbicanref02_Text.l0 k ls s (i : Int)) ⟨(Lib.join (txs ls) [32]).toArray⟩
  | 0, i, s, hi, hs => by
    rw [List.take_of_length_le (by omega)] at hs
    have e : s = ⟨(Lib.join (txs ls) [32]).toArray⟩ := LabP.byte_eq hs
    rw [← e]
    refine EvV.succ (fun k => ?_) (EvV.const _)
    simp only [barbicanref02_Text.l0]
    rw [if_neg (by omega)]
  | d + 1, i, s, hi, hs => by
    have hm := at_mem ls i (by omega)
    have hsz : s.size ≤ 101 * 16 := by
      have := txs_len (ls.take i) (fun x hx => hv x (List.mem_of_mem_take hx))
      rw [← LabP.size_list, hs]
      rw [List.length_take] at this
      omega
    have hts := tx_len _ (hv _ hm)
    have hts' : (LabP.textB (at_ ls i).f0.toNat (ct (at_ ls i))).size ≤ 100 := hts
    refine EvV.succ (fun k => by simp only [barbicanref02_Text.l0]; rw [if_pos (by omega), if_pos (by omega), rd_at, wr1' i (by omega)]) (EvV.bind (rtext_ev (hu _ hm) (hv _ hm)) ?_)
    have hc1 : (s ++ (⟨#[32]⟩ : ByteArray)).data.toList = s.data.toList ++ [32] := LabP.cat_list _ _
    have hs1 : (s ++ (⟨#[32]⟩ : ByteArray)).size = s.size + 1 := by rw [← LabP.size_list, hc1, List.length_append, LabP.size_list]; rfl
    have et : txs (ls.take (i + 1)) = txs (ls.take i) ++ [tx (at_ ls i)] := by rw [take_at ls i (by omega)]; unfold txs; rw [List.map_append]; rfl
    by_cases h0 : i = 0
    · subst h0
      have ih := rtext_l hf hu hv d 1 (s ++ LabP.textB (at_ ls 0).f0.toNat (ct (at_ ls 0))) (by omega) (by
        rw [LabP.cat_list, hs, show 1 = 0 + 1 from rfl, et]
        simp [txs, Lib.join, tx])
      refine EvV.of (fun k => ?_) ih
      show (if ((0 : Nat) : Int) > 0 then _ else _) = _
      dsimp only
      rw [if_neg (by omega), if_pos (by omega)]
    · have hne : txs (ls.take i) ≠ [] := by
        intro h
        have := congrArg List.length h
        unfold txs at this
        rw [List.length_map, List.length_take, List.length_nil] at this
        omega
      have ih := rtext_l hf hu hv d (i + 1) ((s ++ (⟨#[32]⟩ : ByteArray)) ++ LabP.textB (at_ ls i).f0.toNat (ct (at_ ls i))) (by omega) (by
        rw [LabP.cat_list, hc1, hs, et, join_snoc _ _ hne]
        rfl)
      refine EvV.of (fun k => ?_) ih
      show (if (i : Int) > 0 then _ else _) = _
      dsimp only
      rw [if_pos (by omega), if_pos (by omega), if_pos (by rw [hs1]; omega)]
/-- The lattice's text is the document's. -/
theorem text_same {ls : List L} (hf : ls.length ≤ 16) (hu : ∀ x ∈ ls, U x) (hv : ∀ x ∈ ls, LabP.Ok x.f0 (ct x)) : ∃ t, lattice_Lattice_Text.f ls = some t ∧ EvV (fun k => barbicanref02_Text.f k ls) t := by
  refine ⟨⟨(Lib.join (txs ls) [32]).toArray⟩, ?_, EvV.of (fun k => rfl) (rtext_l hf hu hv ls.length 0 ⟨#[]⟩ (Nat.zero_add _) (by rw [List.take_zero]; rfl))⟩
  have h1 := txs_len ls hv
  have e : (ls.map fun x => LabP.textB x.f0.toNat (ct x)).map (·.data.toList) = txs ls := by rw [List.map_map]; rfl
  unfold lattice_Lattice_Text.f
  rw [latTexts_f ls hu hv, Option.bind_some, e, if_pos (by omega)]
end LatA
end Go.Proofs.YtgcaalgaellciaaGreatDoor.Pure
namespace Go.Proofs.YtgcaalgaellciaaGreatDoor.Pure
open Go.RowKit Go.Proofs.YtgcaalgaellciaaGreatDoor.XLam Go.Proofs.YtgcaalgaellciaaGreatDoorW.PrintWords Go.Proofs.YtgcaalgaellciaaGreatDoorW.PrintLast Go.Proofs.YtgcaalgaellciaaGreatDoorW.PrintMore
open LatA
set_option linter.unusedVariables false
set_option linter.unusedSimpArgs false
namespace LatA
theorem posL_no (a : L) : ∀ (l : List L) (k : Nat) (acc : Option Nat), (∀ x ∈ l, x ≠ a) → latPosL acc (l.zipIdx k) a = acc
  | [], _, _, _ => rfl
  | x :: l, k, acc, h => by
    have h1 : ¬ latSame x a = true := fun hs => h x (by simp) ((latSame_iff x a).1 hs)
    have ih := posL_no a l (k + 1) acc (fun y hy => h y (by simp [hy]))
    unfold latPosL at ih ⊢
    rw [List.zipIdx_cons, List.foldl_cons, if_neg h1]
    exact ih
theorem posL_at {ls : List L} (ok : Ok ls) (i : Nat) (hi : i < ls.length) : ∀ (d k : Nat) (acc : Option Nat), k + d = ls.length → latPosL acc ((ls.drop k).zipIdx k) (at_ ls i) = if k ≤ i then some i else acc
  | 0, k, acc, hk => by
    rw [List.drop_eq_nil_of_le (by omega), if_neg (by omega)]
    rfl
  | d + 1, k, acc, hk => by
    have ih := posL_at ok i hi d (k + 1) (if latSame (at_ ls k) (at_ ls i) = true then some k else acc) (by omega)
    rw [drop_at ls k (by omega)]
    unfold latPosL at ih ⊢
    rw [List.zipIdx_cons, List.foldl_cons, ih]
    by_cases h : latSame (at_ ls k) (at_ ls i) = true
    · have e := ok.once k i (by omega) hi ((latSame_iff _ _).1 h)
      rw [if_neg (by omega), if_pos h, if_pos (by omega), e]
    · have hne : k ≠ i := fun e => h (by rw [e]; exact (latSame_iff _ _).2 rfl)
      by_cases hki : k ≤ i
      · rw [if_pos (by omega), if_pos hki]
      · rw [if_neg (by omega), if_neg h, if_neg hki]
theorem rfind_yes {ls : List L} (ok : Ok ls) (i : Nat) (hi : i < ls.length) (a0 a1 : Int) (ha : at_ ls i = ⟨a0, a1⟩) : ∀ (d q : Nat), q + d = i → EvV (fun k => barbicanref02_Find.l0 k ls (q : Int) a0 a1) ((i : Int), 0)
  | 0, q, hq => by
    obtain rfl : q = i := by omega
    refine EvV.succ (fun k => ?_) (EvV.const _)
    simp only [barbicanref02_Find.l0]
    rw [if_pos (by omega), if_pos (by omega), rd_at, ha, if_pos (by simp)]
  | d + 1, q, hq => by
    have hf := ok.few
    have hne : ¬ latSame (at_ ls q) ⟨a0, a1⟩ = true := fun h => by
      have e := (latSame_iff _ _).1 h
      rw [← ha] at e
      have := ok.once q i (by omega) hi e
      omega
    refine EvV.succ (fun k => ?_) (rfind_yes ok i hi a0 a1 ha d (q + 1) (by omega))
    simp only [barbicanref02_Find.l0]
    rw [if_pos (by omega), if_pos (by omega), rd_at, wr1' q (by omega)]
    exact if_neg hne
theorem rfind_no {ls : List L} (hf : ls.length ≤ 16) (a0 a1 : Int) (ha : ∀ i, i < ls.length → at_ ls i ≠ ⟨a0, a1⟩) : ∀ (d q : Nat), q + d = ls.length → EvV (fun k => barbicanref02_Find.l0 k ls (q : Int) a0 a1) (0, 8)
  | 0, q, hq => by
    refine EvV.succ (fun k => ?_) (EvV.const _)
    simp only [barbicanref02_Find.l0]
    rw [if_neg (by omega)]
  | d + 1, q, hq => by
    have hne : ¬ latSame (at_ ls q) ⟨a0, a1⟩ = true := fun h => ha q (by omega) ((latSame_iff _ _).1 h)
    refine EvV.succ (fun k => ?_) (rfind_no hf a0 a1 ha d (q + 1) (by omega))
    simp only [barbicanref02_Find.l0]
    rw [if_pos (by omega), if_pos (by omega), rd_at, wr1' q (by omega)]
    exact if_neg hne
/-- A label is found where the document finds it. -/
theorem find_same {ls : List L} (ok : Ok ls) (a0 a1 : Int) (ha : latWf a0 a1 = true) : ∃ (n : Int) (g : Option Int), lattice_Lattice_Find.f ls a0 a1 = some (n, g) ∧ EvV (fun k => barbicanref02_Find.f k ls a0 a1) (n, g.getD 0) := by
  unfold lattice_Lattice_Find.f
  rw [if_pos ha]
  by_cases h : ∃ i, i < ls.length ∧ at_ ls i = ⟨a0, a1⟩
  · obtain ⟨i, hi, e⟩ := h
    have hp := posL_at ok i hi ls.length 0 none (Nat.zero_add _)
    rw [List.drop_zero, if_pos (Nat.zero_le _), e] at hp
    refine ⟨(i : Int), none, by unfold latPos; rw [hp]; rfl, EvV.of (fun k => rfl) (rfind_yes ok i hi a0 a1 e i 0 (Nat.zero_add _))⟩
  · have hn : ∀ i, i < ls.length → at_ ls i ≠ ⟨a0, a1⟩ := fun i hi e => h ⟨i, hi, e⟩
    have hp := posL_no ⟨a0, a1⟩ ls 0 none (fun x hx e => by
      obtain ⟨i, hi, hx⟩ := List.getElem_of_mem hx
      refine hn i hi ?_
      unfold at_
      rw [List.getD_eq_getElem?_getD, List.getElem?_eq_getElem hi, ← e, ← hx]
      rfl)
    exact ⟨0, some 8, by unfold latPos; rw [hp]; rfl, EvV.of (fun k => rfl) (rfind_no ok.few a0 a1 hn ls.length 0 (Nat.zero_add _))⟩
/-- What was handed in, written over so far. -/
def over (ls : List L) (i : Nat) : List L := List.replicate i ⟨-4321, 0⟩ ++ ls.drop i
theorem over_len (ls : List L) (i : Nat) (h : i ≤ ls.length) : (over ls i).length = ls.length := by
  unfold over
  rw [List.length_append, List.length_replicate, List.length_drop]
  omega
theorem over_at (ls : List L) (i : Nat) (h : i < ls.length) : rd_T37 (over ls i) (i : Int) = at_ ls i := by
  rw [rd_at]
  unfold over at_
  rw [List.getD_eq_getElem?_getD, List.getD_eq_getElem?_getD, List.getElem?_append_right (by simp), List.length_replicate, Nat.sub_self, List.getElem?_drop, Nat.add_zero]
theorem over_set (ls : List L) (i : Nat) (h : i < ls.length) : (over ls i).set i ⟨-4321, 0⟩ = over ls (i + 1) := by
  unfold over
  rw [drop_at ls i h, List.set_append_right _ _ (by simp), List.length_replicate, Nat.sub_self, List.set_cons_zero, List.replicate_succ', List.append_assoc]
  rfl
theorem makes_l0 {ls : List L} (hf : ls.length ≤ 16) (a2 a0 a1 : Int) (hn : EvV (fun k => barbicanlaw02_LatticeMakes.l0 k ls a2 (over ls ls.length) ls (ls.length : Int) a0 a1) true) : ∀ (d i : Nat), i + d = ls.length → EvV (fun k => barbicanlaw02_LatticeMakes.l0 k ls a2 (over ls i) ls (i : Int) a0 a1) true
  | 0, i, hi => by
    obtain rfl : i = ls.length := by omega
    exact hn
  | d + 1, i, hi => by
    refine EvV.succ (fun k => ?_) (makes_l0 hf a2 a0 a1 hn d (i + 1) (by omega))
    simp only [barbicanlaw02_LatticeMakes.l0]
    rw [over_len ls i (by omega), if_pos (by omega), if_pos (by omega), if_pos (by omega), over_at ls i (by omega), rd_at, if_neg (by simp), Int.toNat_natCast, over_set ls i (by omega), wr1' i (by omega)]
theorem makes_j3 {ls : List L} (ok : Ok ls) (hv : ∀ x ∈ ls, LabP.Ok x.f0 (ct x)) (n : Int) (g : Option Int) : EvV (fun k => barbicanlaw02_LatticeMakes.j3 k ls ls n g n (g.getD 0)) true := by
  obtain ⟨t, ht, hr⟩ := text_same ok.few ok.u hv
  refine EvV.succ (G := fun k => (barbicanref02_Text.f k ls).bind fun t169 => if t.toList = t169.toList then ((barbicanlaw02_sure.f k).bind fun t170 => some t170) else some false) (fun k => ?_) (EvV.bind hr ?_)
  · simp only [barbicanlaw02_LatticeMakes.j3]
    rw [show lattice_Lattice_Len.f ls = some (ls.length : Int) from rfl, Option.bind_some, if_pos rfl, if_pos trivial, show barbicanlaw02_num.f g = some (g.getD 0) from rfl, Option.bind_some, if_pos rfl, ht, Option.bind_some]
  · exact EvV.of (fun k => by rw [if_pos rfl, bind_id]) sure_ev
theorem makes_end {ls : List L} (ok : Ok ls) (hv : ∀ x ∈ ls, LabP.Ok x.f0 (ct x)) (a0 a1 a2 : Int) (ha : latWf a0 a1 = true) : EvV (fun k => barbicanlaw02_LatticeMakes.l0 k ls a2 (over ls ls.length) ls (ls.length : Int) a0 a1) true := by
  obtain ⟨n, g, hl, hr⟩ := find_same ok a0 a1 ha
  have hj := makes_j3 ok hv n g
  by_cases h0 : a2 ≥ 0
  · by_cases h1 : a2 < (ls.length : Int)
    · have hj2 : EvV (fun k => barbicanlaw02_LatticeMakes.j2 k ls a2 ls n g n (g.getD 0) none true (rd_T37 ls a2).f0 (rd_T37 ls a2).f1) true := by
        refine EvV.succ (fun k => ?_) hj
        simp only [barbicanlaw02_LatticeMakes.j2, if_true]
        rw [if_pos h0, if_pos h1, if_neg (by simp), if_pos (by rfl)]
      refine EvV.succ (G := fun k => (barbicanref02_Find.f k ls a0 a1).bind fun bt157 => barbicanlaw02_LatticeMakes.j2 k ls a2 ls n g bt157.1 bt157.2 none true (rd_T37 ls a2).f0 (rd_T37 ls a2).f1) (fun k => ?_) (EvV.bind hr hj2)
      simp only [barbicanlaw02_LatticeMakes.l0]
      rw [over_len ls _ (Nat.le_refl _), if_neg (by omega), hl, Option.bind_some]
      unfold lattice_Lattice_Label.f
      simp only [if_pos (show 0 ≤ a2 ∧ a2 < (ls.length : Int) from ⟨h0, h1⟩), Option.bind_some, if_pos h0, decide_eq_true h1]
    · have hj2 : EvV (fun k => barbicanlaw02_LatticeMakes.j2 k ls a2 ls n g n (g.getD 0) (some 1) false 0 0) true := by
        refine EvV.succ (fun k => ?_) hj
        simp only [barbicanlaw02_LatticeMakes.j2, Bool.false_eq_true, if_false]
        rw [show barbicanlaw02_num.f (some 1) = some 1 from rfl, Option.bind_some, if_pos rfl, if_neg (by simp)]
      refine EvV.succ (G := fun k => (barbicanref02_Find.f k ls a0 a1).bind fun bt157 => barbicanlaw02_LatticeMakes.j2 k ls a2 ls n g bt157.1 bt157.2 (some 1) false 0 0) (fun k => ?_) (EvV.bind hr hj2)
      simp only [barbicanlaw02_LatticeMakes.l0]
      rw [over_len ls _ (Nat.le_refl _), if_neg (by omega), hl, Option.bind_some]
      unfold lattice_Lattice_Label.f
      simp only [if_neg (show ¬ (0 ≤ a2 ∧ a2 < (ls.length : Int)) from fun h => h1 h.2), Option.bind_some, if_pos h0, decide_eq_false h1]
  · have hj2 : EvV (fun k => barbicanlaw02_LatticeMakes.j2 k ls a2 ls n g n (g.getD 0) (some 1) false 0 0) true := by
      refine EvV.succ (fun k => ?_) hj
      simp only [barbicanlaw02_LatticeMakes.j2, Bool.false_eq_true, if_false]
      rw [show barbicanlaw02_num.f (some 1) = some 1 from rfl, Option.bind_some, if_pos rfl, if_neg (by simp)]
    refine EvV.succ (G := fun k => (barbicanref02_Find.f k ls a0 a1).bind fun bt157 => barbicanlaw02_LatticeMakes.j2 k ls a2 ls n g bt157.1 bt157.2 (some 1) false 0 0) (fun k => ?_) (EvV.bind hr hj2)
    simp only [barbicanlaw02_LatticeMakes.l0]
    rw [over_len ls _ (Nat.le_refl _), if_neg (by omega), hl, Option.bind_some]
    unfold lattice_Lattice_Label.f
    simp only [if_neg (show ¬ (0 ≤ a2 ∧ a2 < (ls.length : Int)) from fun h => h0 h.1), Option.bind_some, if_neg h0]
theorem makes_no (ls : List L) (a2 a0 a1 e : Int) : EvV (fun k => barbicanlaw02_LatticeMakes.j0 k ls a2 ls [] (some e) e true a0 a1) true := by
  refine EvV.succ (fun k => ?_) sure_ev
  simp only [barbicanlaw02_LatticeMakes.j0, if_true]
  rw [show barbicanlaw02_num.f (some e) = some e from rfl, Option.bind_some, if_pos rfl, if_pos (by rfl), bind_id]
theorem makes_yes {ls : List L} (ok : Ok ls) (hne : ls ≠ []) (hv : ∀ x ∈ ls, LabP.Ok x.f0 (ct x)) (a0 a1 a2 : Int) (ha : latWf a0 a1 = true) : EvV (fun k => barbicanlaw02_LatticeMakes.j0 k ls a2 ls ls none 0 ls.isEmpty a0 a1) true := by
  have hem : ls.isEmpty = false := by simpa using hne
  have h := makes_l0 ok.few a2 a0 a1 (makes_end ok hv a0 a1 a2 ha) ls.length 0 (Nat.zero_add _)
  refine EvV.succ (fun k => ?_) h
  simp only [barbicanlaw02_LatticeMakes.j0, hem, Bool.false_eq_true, if_false]
  rfl
end LatA
open LatA
theorem LatticeMakes (l0 : List (S37)) (a1_0 : Int) (a1_1 : Int) (a2 : Int) (g0 : (fun xs : List (S37) => xs.length * 16 ≤ 140737488351232 ∧ xs.length ≤ maxLen ∧ ∀ x ∈ xs, goodw37 x) l0) (g1_0 : (fun n : Int => (Lit.int .i64 n).wf = true) a1_0) (g1_1 : (fun n : Int => (Lit.int .u32 n).wf = true) a1_1) (g2 : (fun n : Int => (Lit.int .i64 n).wf = true) a2) : ∃ k, barbicanlaw02_LatticeMakes.f k l0 a1_0 a1_1 a2 = some true := by
  obtain ⟨h1, _, h2⟩ := g0
  have hu : ∀ x ∈ l0, U x := fun x hx => u32_wf (h2 x hx).2
  have ha : latWf a1_0 a1_1 = true := by unfold latWf; rw [g1_0, g1_1]; rfl
  have hr := rnew_f hu
  refine Ev.ex ?_
  unfold barbicanlaw02_LatticeMakes.f
  rw [twin_f l0 (by omega)]
  simp only [Option.bind_some, new_f hu]
  cases hn : latNew l0 with
  | some e =>
    rw [hn] at hr
    have he : e ≠ 0 := new_num hn
    refine EvV.bind hr ?_
    refine EvV.of (fun k => ?_) (makes_no l0 a2 a1_0 a1_1 e)
    show (if e = 0 then _ else _) = _
    rw [if_neg he, latMade_some hn]
    rfl
  | none =>
    rw [hn] at hr
    obtain ⟨hne, ok, hv⟩ := new_ok hu hn
    refine EvV.bind hr ?_
    refine EvV.of (fun k => ?_) (makes_yes ok hne (fun x hx => valid_ok (hu x hx) (hv x hx).2.2) a1_0 a1_1 a2 ha)
    show (if (0 : Int) = 0 then _ else _) = _
    rw [if_pos rfl, if_pos (by rfl), latMade_none hn]
    rfl
end Go.Proofs.YtgcaalgaellciaaGreatDoor.Pure
