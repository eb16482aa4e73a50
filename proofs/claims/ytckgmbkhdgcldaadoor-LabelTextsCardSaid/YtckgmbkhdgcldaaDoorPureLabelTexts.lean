/- LabelTexts, plain: every label's text, and the label of every text, or the error, are the document's. -/
import Derived.Test.YtckgmbkhdgcldaaDoorXBothx9
import Derived.Test.YtckgmbkhdgcldaaDoorBothLabP
import Derived.Test.YtckgmbkhdgcldaaDoorBothLabH
namespace Go.Proofs.YtckgmbkhdgcldaaDoor.Pure
open Go.RowKit Go.Proofs.YtckgmbkhdgcldaaDoor.XBoth Go.Proofs.YtckgmbkhdgcldaaDoorW.PrintWords Go.Proofs.YtckgmbkhdgcldaaDoorW.PrintLast Go.Proofs.YtckgmbkhdgcldaaDoorW.PrintMore
set_option linter.unusedVariables false
set_option linter.unusedSimpArgs false
namespace LabP
theorem step64 (i : Nat) (h : i < 9223372036854775000) : wrap64 ((i : Int) + 1) = ((i + 1 : Nat) : Int) := by rw [wrap64_small _ (by omega) (by omega)]; omega
theorem rvalid_yes (x : Int) (c : Nat) (hc : c < 67108864) (d : Nat) : ∀ k i : Nat, i + d = 32 → 26 ≤ i → d < k →
    barbicanref01_Valid.l0 k (i : Int) x (c : Int) = some (if x < 0 then 20 else if x > 15 then 20 else 0) := by
  induction d with
  | zero =>
    intro k i hi hi2 hk
    obtain ⟨k, rfl⟩ : ∃ q, k = q + 1 := ⟨k - 1, by omega⟩
    simp only [barbicanref01_Valid.l0]
    rw [if_neg (by omega)]
    split
    · rfl
    · split <;> rfl
  | succ d ih =>
    intro k i hi hi2 hk
    obtain ⟨k, rfl⟩ : ∃ q, k = q + 1 := ⟨k - 1, by omega⟩
    have hr := ih k (i + 1) (by omega) (by omega) (by omega)
    have hb : c.testBit i = false := Nat.testBit_lt_two_pow (Nat.lt_of_lt_of_le (show c < 2 ^ 26 by have e : (2 : Nat) ^ 26 = 67108864 := by decide +kernel
                                                                                                    omega) (Nat.pow_le_pow_right (by decide) hi2))
    simp only [barbicanref01_Valid.l0]
    rw [if_pos (by omega), has_f x c (by omega) i (by omega), Option.bind_some, hb, if_neg (by decide), step64 i (by omega), hr]
theorem rvalid_no (x : Int) (c : Nat) (hc : c < 4294967296) (j : Nat) (hj : j < 32) (hb : c.testBit j = true) (d : Nat) : ∀ k i : Nat, i + d = j → d < k →
    barbicanref01_Valid.l0 k (i : Int) x (c : Int) = some 20 := by
  induction d with
  | zero =>
    intro k i hi hk
    obtain ⟨k, rfl⟩ : ∃ q, k = q + 1 := ⟨k - 1, by omega⟩
    obtain rfl : i = j := by omega
    simp only [barbicanref01_Valid.l0]
    rw [if_pos (by omega), has_f x c hc i hj, Option.bind_some, if_pos hb]
  | succ d ih =>
    intro k i hi hk
    obtain ⟨k, rfl⟩ : ∃ q, k = q + 1 := ⟨k - 1, by omega⟩
    have hr := ih k (i + 1) (by omega) (by omega)
    simp only [barbicanref01_Valid.l0]
    rw [if_pos (by omega), has_f x c hc i (by omega), Option.bind_some, step64 i (by omega), hr]
    split <;> rfl
theorem rvalid_ok (k : Nat) (x : Int) (c : Nat) (hk : 40 ≤ k) (h : Ok x c) : barbicanref01_Valid.f k x (c : Int) = some 0 := by
  obtain ⟨h0, h1, h2⟩ := h
  unfold barbicanref01_Valid.f
  have h := rvalid_yes x c h2 6 k 26 (by omega) (by omega) (by omega)
  rw [if_neg (by omega), if_neg (by omega)] at h
  exact h
theorem rvalid_bad (k : Nat) (x : Int) (c : Nat) (hc : c < 4294967296) (hk : 40 ≤ k) (h : ¬ Ok x c) : barbicanref01_Valid.f k x (c : Int) = some 20 := by
  unfold barbicanref01_Valid.f
  by_cases h2 : c < 67108864
  · have h3 := rvalid_yes x c h2 6 k 26 (by omega) (by omega) (by omega)
    by_cases h0 : x < 0
    · rw [if_pos h0] at h3
      exact h3
    · rw [if_neg h0] at h3
      by_cases h1 : x > 15
      · rw [if_pos h1] at h3
        exact h3
      · exact absurd ⟨by omega, by omega, h2⟩ h
  · have e26 : (2 : Nat) ^ 26 = 67108864 := by decide +kernel
    obtain ⟨j, hj, hb⟩ := Nat.exists_ge_and_testBit_of_ge_two_pow (x := c) (n := 26) (by omega)
    clear e26
    have hlt : j < 32 := by
      rcases Nat.lt_or_ge j 32 with h | h
      · exact h
      · exfalso
        rw [Nat.testBit_lt_two_pow (Nat.lt_of_lt_of_le (show c < 2 ^ 32 by have e : (2 : Nat) ^ 32 = 4294967296 := by decide +kernel
                                                                           omega) (Nat.pow_le_pow_right (by decide) h))] at hb
        cases hb
    exact rvalid_no x c hc j hlt hb (j - 26) k 26 (by omega) (by omega)
theorem digit_at (d : Nat) (h : d < 10) : ((⟨#[48, 49, 50, 51, 52, 53, 54, 55, 56, 57]⟩ : ByteArray).extract d (d + 1)).data.toList = [UInt8.ofNat (48 + d)] := by
  have h1 : ∀ d : Fin 10, ((⟨#[48, 49, 50, 51, 52, 53, 54, 55, 56, 57]⟩ : ByteArray).extract d.val (d.val + 1)).data.toList = [UInt8.ofNat (48 + d.val)] := by decide +kernel
  exact h1 ⟨d, h⟩
theorem letter_at (d : Nat) (h : d < 26) : ((⟨#[97, 98, 99, 100, 101, 102, 103, 104, 105, 106, 107, 108, 109, 110, 111, 112, 113, 114, 115, 116, 117, 118, 119, 120, 121, 122]⟩ : ByteArray).extract d (d + 1)).data.toList = [UInt8.ofNat (97 + d)] := by
  have h1 : ∀ d : Fin 26, ((⟨#[97, 98, 99, 100, 101, 102, 103, 104, 105, 106, 107, 108, 109, 110, 111, 112, 113, 114, 115, 116, 117, 118, 119, 120, 121, 122]⟩ : ByteArray).extract d.val (d.val + 1)).data.toList = [UInt8.ofNat (97 + d.val)] := by decide +kernel
  exact h1 ⟨d, h⟩
theorem cat_list (a b : ByteArray) : (a ++ b).data.toList = a.data.toList ++ b.data.toList := by simp
theorem cats_nil (c : Nat) (hc : c < 67108864) : LabL.cats c = [] ↔ c = 0 := by
  constructor
  · intro h
    have h1 := setCats_cats c hc
    rw [h, LabL.setCats] at h1
    simpa using h1.symm
  · rintro rfl
    decide +kernel
theorem rtext_l (r : Nat) (hr : r < 16) (c : Nat) (hc : c < 67108864) (d : Nat) : ∀ (k p : Nat) (s m : ByteArray), p + d = 26 → d < k →
    s.data.toList = digs r ++ (if LabL.catsTo c p = [] then [] else 58 :: LabL.catsTo c p) → m.data.toList = (if LabL.catsTo c p = [] then [58] else []) →
    barbicanref01_Text.l0 k s m (p : Int) (r : Int) (c : Int) = some (textB r c, 0) := by
  induction d with
  | zero =>
    intro k p s m hp hk hs hm
    obtain ⟨k, rfl⟩ : ∃ q, k = q + 1 := ⟨k - 1, by omega⟩
    obtain rfl : p = 26 := by omega
    simp only [barbicanref01_Text.l0]
    rw [if_neg (by omega)]
    have h1 : s = textB r c := by
      apply byte_eq
      rw [textB_list r c hr, hs]
      have h2 := cats_nil c hc
      unfold LabL.cats at h2 ⊢
      by_cases h0 : c = 0
      · rw [if_pos h0, if_pos (h2.2 h0)]
      · rw [if_neg h0, if_neg (fun h => h0 (h2.1 h))]
    rw [h1]
  | succ d ih =>
    intro k p s m hp hk hs hm
    obtain ⟨k, rfl⟩ : ∃ q, k = q + 1 := ⟨k - 1, by omega⟩
    have hcl := LabL.catsTo_len c p
    have hdl := digs_len r
    have hss : s.size ≤ 29 := by
      rw [← size_list, hs, List.length_append]
      split
      · simp; omega
      · rw [List.length_cons]; omega
    have hms : m.size ≤ 1 := by
      rw [← size_list, hm]
      split <;> simp
    simp only [barbicanref01_Text.l0]
    rw [if_pos (by omega), has_f (r : Int) c (by omega) p (by omega), Option.bind_some, step64 p (by omega)]
    cases hb : c.testBit p with
    | false =>
      have hsk := LabL.catsTo_skip c p 1 (fun i h1 h2 => by rw [show i = p by omega]; exact hb)
      rw [if_neg (by decide)]
      exact ih k (p + 1) s m (by omega) (by omega) (by rw [hsk]; exact hs) (by rw [hsk]; exact hm)
    | true =>
      have hh := LabL.catsTo_hit c p hb
      have hle := letter_at p (by omega)
      have hne : LabL.catsTo c (p + 1) ≠ [] := by rw [hh]; simp
      rw [if_pos rfl, if_pos (by omega), if_pos (by omega), if_pos (by omega), if_pos (by omega), Int.toNat_natCast, Int.toNat_natCast]
      have hsz : (s ++ m).size ≤ 30 := by rw [← size_list, cat_list, List.length_append, size_list, size_list]; omega
      have hl1 : ((⟨#[97, 98, 99, 100, 101, 102, 103, 104, 105, 106, 107, 108, 109, 110, 111, 112, 113, 114, 115, 116, 117, 118, 119, 120, 121, 122]⟩ : ByteArray).extract p (p + 1)).size = 1 := by rw [← size_list, hle]; rfl
      rw [if_pos (by omega)]
      refine ih k (p + 1) _ _ (by omega) (by omega) ?_ ?_
      · rw [cat_list, cat_list, hle, hs, hm, if_neg hne, hh]
        by_cases h0 : LabL.catsTo c p = []
        · rw [if_pos h0, if_pos h0, h0]; simp
        · rw [if_neg h0, if_neg h0]; simp
      · rw [if_neg hne]
theorem rtext_ok (k : Nat) (x : Int) (c : Nat) (hk : 50 ≤ k) (h : Ok x c) : barbicanref01_Text.f k x (c : Int) = some (textB x.toNat c, 0) := by
  have hv := rvalid_ok k x c (by omega) h
  obtain ⟨r, rfl⟩ := Int.eq_ofNat_of_zero_le h.1
  have h15 := h.2.1
  have hc := h.2.2
  have hr : r < 16 := by omega
  obtain ⟨q, rfl⟩ : ∃ q, k = q + 1 := ⟨k - 1, by omega⟩
  unfold barbicanref01_Text.f
  have e1 : Int.tmod (r : Int) 10 = ((r % 10 : Nat) : Int) := by rw [Int.tmod_eq_emod_of_nonneg (by omega)]; omega
  have hd := digit_at (r % 10) (by omega)
  have hds : ((⟨#[48, 49, 50, 51, 52, 53, 54, 55, 56, 57]⟩ : ByteArray).extract (r % 10) (r % 10 + 1)).size = 1 := by rw [← size_list, hd]; rfl
  rw [hv, Option.bind_some, if_pos rfl, e1, step64 (r % 10) (by omega), if_pos (by omega), if_pos (by omega), if_pos (by omega), Int.toNat_natCast, Int.toNat_natCast, Int.toNat_natCast]
  have h0 : LabL.catsTo c 0 = [] := rfl
  by_cases h9 : (r : Int) > 9
  · rw [if_pos h9, if_pos (by omega)]
    simp only [barbicanref01_Text.j0]
    refine rtext_l r hr c hc 26 q 0 _ _ (by omega) (by omega) ?_ ?_
    · rw [if_pos h0, cat_list, hd]
      unfold digs
      rw [if_neg (by omega), show r % 10 = r - 10 by omega]
      simp
    · rw [if_pos h0]
  · rw [if_neg h9]
    simp only [barbicanref01_Text.j0]
    refine rtext_l r hr c hc 26 q 0 _ _ (by omega) (by omega) ?_ ?_
    · rw [if_pos h0, hd]
      unfold digs
      rw [if_pos (by omega), show r % 10 = r by omega]
      simp
    · rw [if_pos h0]
theorem rtext_bad (k : Nat) (x : Int) (c : Nat) (hc : c < 4294967296) (hk : 50 ≤ k) (h : ¬ Ok x c) : barbicanref01_Text.f k x (c : Int) = some (⟨#[]⟩, 20) := by
  unfold barbicanref01_Text.f
  rw [rvalid_bad k x c hc (by omega) h, Option.bind_some, if_neg (by decide)]
/-- The categories that the letters among bytes name. -/
def orAny : List UInt8 → Nat → Nat
  | [], c => c
  | b :: r, c => if 97 ≤ b.toNat ∧ b.toNat ≤ 122 then orAny r (c ||| 2 ^ (b.toNat - 97)) else orAny r c
theorem orAny_set : ∀ (l : List UInt8) (c d : Nat), LabL.setCats l c = some d → orAny l c = d := by
  intro l
  induction l with
  | nil => intro c d h; simpa [LabL.setCats, orAny] using h
  | cons b l ih =>
    intro c d h
    rw [LabL.setCats] at h
    rw [orAny]
    by_cases hb : 97 ≤ b.toNat ∧ b.toNat ≤ 122
    · rw [if_pos hb] at h ⊢
      exact ih _ d h
    · rw [if_neg hb] at h
      cases h
open Classical in
/-- What the document's reader ends with. -/
noncomputable def fin (s : ByteArray) (x : Int) (c : Nat) : Int × Int × Int := if Ok x c ∧ textB x.toNat c = s then (x, (c : Int), 0) else (0, 0, 3)
theorem end_f (k : Nat) (s : ByteArray) (x : Int) (c : Nat) (hc : c < 4294967296) (hk : 50 ≤ k) :
    ((barbicanref01_Text.f k x (c : Int)).bind fun bt126 => (if bt126.2 = 0 then (if bt126.1.toList = s.toList then (some (x, (c : Int), 0)) else (some (0, 0, 3))) else (some ((0 : Int), (0 : Int), (3 : Int))))) = some (fin s x c) := by
  unfold fin
  by_cases h : Ok x c
  · rw [rtext_ok k x c hk h, Option.bind_some, if_pos rfl]
    by_cases h1 : textB x.toNat c = s
    · rw [if_pos (by rw [h1]), if_pos ⟨h, h1⟩]
    · rw [if_neg (by rw [Lib.toList_data, Lib.toList_data]; exact fun hh => h1 (byte_eq hh)), if_neg (fun hh => h1 hh.2)]
  · rw [rtext_bad k x c hc hk h, Option.bind_some, if_neg (by decide), if_neg (fun hh => h hh.1)]
theorem bt_nat (s : ByteArray) (i : Nat) (h : i < s.size) : bt s (i : Int) = ((s[i]'h).toNat : Int) := by
  unfold bt
  rw [dif_pos (by rw [Int.toNat_natCast]; exact h)]
  simp only [Int.toNat_natCast]
theorem drop_at (s : ByteArray) (i : Nat) (h : i < s.size) : s.data.toList.drop i = s[i]'h :: s.data.toList.drop (i + 1) := List.drop_eq_getElem_cons (by rw [size_list]; exact h)
theorem shl_bit (b : Nat) (h0 : 97 ≤ b) (h1 : b ≤ 122) : shl .u32 1 (((b : Int) - 97) % 256) = ((2 ^ (b - 97) : Nat) : Int) := by
  have e1 : (((b : Int) - 97) % 256).toNat = b - 97 := by omega
  have e2 : min (b - 97) 32 = b - 97 := by omega
  have e3 : 2 ^ (b - 97) < 67108864 := by
    have e : (2 : Nat) ^ 26 = 67108864 := by decide +kernel
    rw [← e]
    exact Nat.pow_lt_pow_right (by decide) (by omega)
  unfold shl
  rw [e1, show IntKind.u32.bits = 32 from rfl, e2, IntKind.wrap_u32', Int.one_mul, show (2 : Int) ^ (b - 97) = ((2 ^ (b - 97) : Nat) : Int) by push_cast; rfl]
  clear e1 e2 h0 h1
  generalize 2 ^ (b - 97) = m at e3 ⊢
  omega
theorem or32 (c m : Nat) (hc : c < 4294967296) (hm : m < 4294967296) : c ||| m < 4294967296 := by
  have e : (2 : Nat) ^ 32 = 4294967296 := by decide +kernel
  have h := Nat.or_lt_two_pow (x := c) (y := m) (n := 32) (by omega) (by omega)
  omega
theorem rl1_f (s : ByteArray) (hs : s.size ≤ 140737488355328) (x : Int) (d : Nat) : ∀ (k i c : Nat), i + d = s.size → d + 60 ≤ k → c < 4294967296 →
    barbicanref01_Parse.l1 k s (i : Int) x (c : Int) = some (fin s x (orAny (s.data.toList.drop i) c)) := by
  induction d with
  | zero =>
    intro k i c hi hk hc
    obtain ⟨k, rfl⟩ : ∃ q, k = q + 1 := ⟨k - 1, by omega⟩
    simp only [barbicanref01_Parse.l1]
    rw [if_neg (by omega), end_f k s x c hc (by omega), List.drop_eq_nil_of_le (by rw [size_list]; omega), orAny]
  | succ d ih =>
    intro k i c hi hk hc
    obtain ⟨k, rfl⟩ : ∃ q, k = q + 1 := ⟨k - 1, by omega⟩
    have hlt : i < s.size := by omega
    simp only [barbicanref01_Parse.l1]
    rw [if_pos (by omega), if_pos (by omega), bt_nat s i hlt, drop_at s i hlt, orAny, step64 i (by omega)]
    generalize (s[i]'hlt).toNat = b
    by_cases h1 : 97 ≤ b
    · rw [if_pos (by omega)]
      by_cases h2 : b ≤ 122
      · have e3 : 2 ^ (b - 97) < 67108864 := by
          have e : (2 : Nat) ^ 26 = 67108864 := by decide +kernel
          rw [← e]
          exact Nat.pow_lt_pow_right (by decide) (by omega)
        rw [if_pos (by omega), if_pos ⟨h1, h2⟩, shl_bit b h1 h2, u32_or_nat c _ hc (by omega)]
        exact ih k (i + 1) _ (by omega) (by omega) (or32 c _ hc (by omega))
      · rw [if_neg (by omega), if_neg (fun h => h2 h.2)]
        exact ih k (i + 1) c (by omega) (by omega) hc
    · rw [if_neg (by omega), if_neg (fun h => h1 h.1)]
      exact ih k (i + 1) c (by omega) (by omega) hc
/-- The reader's part behind the digits. -/
theorem rj1_f (s : ByteArray) (hs : s.size ≤ 140737488355328) (x : Int) (k i : Nat) (hi : i ≤ s.size) (hk : s.size + 100 ≤ k) :
    barbicanref01_Parse.j1 k s (i : Int) x 0 = some (fin s x (orAny (s.data.toList.drop (i + 1)) 0)) := by
  obtain ⟨k, rfl⟩ : ∃ q, k = q + 1 := ⟨k - 1, by omega⟩
  simp only [barbicanref01_Parse.j1]
  rw [step64 i (by omega)]
  by_cases h : i < s.size
  · exact rl1_f s hs x (s.size - (i + 1)) k (i + 1) 0 (by omega) (by omega) (by omega)
  · obtain ⟨k, rfl⟩ : ∃ q, k = q + 1 := ⟨k - 1, by omega⟩
    simp only [barbicanref01_Parse.l1]
    rw [if_neg (by omega), List.drop_eq_nil_of_le (by rw [size_list]; omega), orAny]
    exact end_f k s x 0 (by omega) (by omega)
theorem rl0_any (s : ByteArray) (hs : s.size ≤ 140737488355328) (d : Nat) : ∀ (k i : Nat) (x : Int), i + d = 3 → i ≤ s.size → s.size + d + 102 ≤ k →
    ∃ x' i', barbicanref01_Parse.l0 k s (i : Int) x 0 = some (fin s x' (orAny (s.data.toList.drop i') 0)) := by
  induction d with
  | zero =>
    intro k i x hi hi2 hk
    obtain ⟨k, rfl⟩ : ∃ q, k = q + 1 := ⟨k - 1, by omega⟩
    have hj := rj1_f s hs x k i hi2 (by omega)
    refine ⟨x, i + 1, ?_⟩
    simp only [barbicanref01_Parse.l0]
    by_cases h : i < s.size
    · rw [if_pos (by omega), if_neg (by omega), hj]
    · rw [if_neg (by omega), hj]
  | succ d ih =>
    intro k i x hi hi2 hk
    obtain ⟨k, rfl⟩ : ∃ q, k = q + 1 := ⟨k - 1, by omega⟩
    have hj := rj1_f s hs x k i hi2 (by omega)
    simp only [barbicanref01_Parse.l0]
    by_cases h : i < s.size
    · rw [if_pos (by omega), if_pos (by omega), if_pos (by omega), step64 i (by omega)]
      by_cases h1 : bt s (i : Int) ≥ 48
      · rw [if_pos h1]
        by_cases h2 : bt s (i : Int) ≤ 57
        · rw [if_pos h2]
          exact ih k (i + 1) _ (by omega) (by omega) (by omega)
        · rw [if_neg h2]
          exact ⟨x, i + 1, hj⟩
      · rw [if_neg h1]
        exact ⟨x, i + 1, hj⟩
    · rw [if_neg (by omega)]
      exact ⟨x, i + 1, hj⟩
theorem fin_text (r c : Nat) (hr : r < 16) (hc : c < 67108864) : fin (textB r c) (r : Int) c = ((r : Int), (c : Int), 0) := by
  unfold fin
  rw [if_pos ⟨⟨by omega, by omega, hc⟩, by rw [Int.toNat_natCast]⟩]
theorem list_bt (s : ByteArray) (l : List UInt8) (hl : s.data.toList = l) (i : Nat) (c : UInt8) (h : l[i]? = some c) : bt s (i : Int) = (c.toNat : Int) ∧ i < s.size := by
  have h1 : i < s.size := by
    rw [← size_list, hl]
    exact (List.getElem?_eq_some_iff.1 h).1
  refine ⟨?_, h1⟩
  rw [bt_nat s i h1]
  have h2 := drop_at s i h1
  rw [hl] at h2
  have h3 : (l.drop i)[0]? = some (s[i]'h1) := by rw [h2]; rfl
  rw [List.getElem?_drop, Nat.add_zero, h] at h3
  rw [Option.some.inj h3]
theorem orAny_text (c : Nat) (hc : c < 67108864) : orAny (LabL.cats c) 0 = c := orAny_set _ 0 c (setCats_cats c hc)
/-- Behind the digits. -/
theorem rest_f (r c : Nat) (hr : r < 16) (hc : c < 67108864) (n k : Nat) (hn : n = (digs r).length) (hk : 300 ≤ k) : barbicanref01_Parse.l0 k (textB r c) (n : Int) (r : Int) 0 = some ((r : Int), (c : Int), 0) := by
  have hl := textB_list r c hr
  have hsz := textB_size r c hr
  have hle : n ≤ (textB r c).size := by rw [← size_list, hl, List.length_append, hn]; omega
  have hdl := digs_len r
  obtain ⟨k, rfl⟩ : ∃ q, k = q + 1 := ⟨k - 1, by omega⟩
  have hor : orAny ((textB r c).data.toList.drop (n + 1)) 0 = c := by
    rw [hl, hn]
    by_cases h0 : c = 0
    · rw [if_pos h0, List.append_nil, List.drop_eq_nil_of_le (by omega), h0]; rfl
    · rw [if_neg h0, List.drop_append, List.drop_eq_nil_of_le (by omega), List.nil_append, show (digs r).length + 1 - (digs r).length = 1 by omega]
      exact orAny_text c hc
  have hj := rj1_f (textB r c) (by omega) (r : Int) k n hle (by omega)
  rw [hor, fin_text r c hr hc] at hj
  simp only [barbicanref01_Parse.l0]
  by_cases h : n < (textB r c).size
  · have h0 : ¬ c = 0 := by
      rintro rfl
      rw [← size_list, hl, if_pos rfl, List.append_nil] at h
      omega
    rw [if_neg h0] at hl
    obtain ⟨hb, _⟩ := list_bt (textB r c) _ hl n 58 (by rw [hn, List.getElem?_append_right (Nat.le_refl _), Nat.sub_self]; rfl)
    rw [if_pos (by omega), if_pos (by omega), if_pos (by omega), hb, if_pos (by decide), if_neg (by decide), hj]
  · rw [if_neg (by omega), hj]
theorem rparse_text (r c : Nat) (hr : r < 16) (hc : c < 67108864) (k : Nat) (hk : 400 ≤ k) : barbicanref01_Parse.f k (textB r c) = some ((r : Int), (c : Int), 0) := by
  have hl := textB_list r c hr
  unfold barbicanref01_Parse.f
  obtain ⟨k, rfl⟩ : ∃ q, k = q + 2 := ⟨k - 2, by omega⟩
  by_cases h10 : r < 10
  · have hd : digs r = [UInt8.ofNat (48 + r)] := by unfold digs; rw [if_pos h10]
    obtain ⟨hb, hlt⟩ := list_bt (textB r c) _ hl 0 (UInt8.ofNat (48 + r)) (by rw [hd]; rfl)
    rw [ofNat_toNat _ (by omega)] at hb
    have hb' : bt (textB r c) 0 = ((48 + r : Nat) : Int) := hb
    have hf := rest_f r c hr hc 1 (k + 1) (by rw [hd]; rfl) (by omega)
    simp only [barbicanref01_Parse.l0]
    rw [if_pos (by omega), if_pos (by decide), if_pos (by decide), hb', if_pos (by omega), if_pos (by omega)]
    rw [show wrap64 ((0 : Int) + 1) = ((1 : Nat) : Int) by decide +kernel, show wrap64 (wrap64 (10 * 0) + (((48 + r : Nat) : Int) - 48) % 256) = (r : Int) by rw [show wrap64 (10 * 0) = 0 by decide +kernel, wrap64_small _ (by omega) (by omega)]; omega]
    exact hf
  · have hd : digs r = [49, UInt8.ofNat (48 + (r - 10))] := by unfold digs; rw [if_neg h10]
    obtain ⟨hb, hlt⟩ := list_bt (textB r c) _ hl 0 49 (by rw [hd]; rfl)
    obtain ⟨hb2, hlt2⟩ := list_bt (textB r c) _ hl 1 (UInt8.ofNat (48 + (r - 10))) (by rw [hd]; rfl)
    rw [ofNat_toNat _ (by omega)] at hb2
    have hb' : bt (textB r c) 0 = 49 := hb
    have hb2' : bt (textB r c) 1 = ((48 + (r - 10) : Nat) : Int) := hb2
    have hf := rest_f r c hr hc 2 k (by rw [hd]; rfl) (by omega)
    simp only [barbicanref01_Parse.l0]
    rw [if_pos (by omega), if_pos (by decide), if_pos (by decide), hb', if_pos (by decide), if_pos (by decide)]
    rw [show wrap64 ((0 : Int) + 1) = (1 : Int) by decide +kernel, show wrap64 (wrap64 (10 * 0) + ((49 : Int) - 48) % 256) = (1 : Int) by decide +kernel]
    rw [if_pos (by omega), if_pos (by decide), if_pos (by decide), hb2', if_pos (by omega), if_pos (by omega)]
    rw [show wrap64 ((1 : Int) + 1) = ((2 : Nat) : Int) by decide +kernel, show wrap64 (wrap64 (10 * 1) + (((48 + (r - 10) : Nat) : Int) - 48) % 256) = (r : Int) by rw [show wrap64 (10 * 1) = 10 by decide +kernel, wrap64_small _ (by omega) (by omega)]; omega]
    exact hf
end LabP
open LabP
theorem LabelTexts (a0_0 : Int) (a0_1 : Int) (a1 : ByteArray) (g0_0 : (fun n : Int => (Lit.int .i64 n).wf = true) a0_0) (g0_1 : (fun n : Int => (Lit.int .u32 n).wf = true) a0_1) (g1 : (fun s : ByteArray => s.size ≤ 140737488351232) a1) : ∃ k, barbicanlaw01_LabelTexts.f k a0_0 a0_1 a1 = some true := by
  obtain ⟨k, hk⟩ : ∃ k : Nat, a1.size + 1000 ≤ k := ⟨_, Nat.le_refl _⟩
  refine ⟨k, ?_⟩
  obtain ⟨a, rfl⟩ := Int.eq_ofNat_of_zero_le (u32_wf g0_1).1
  have ha : a < 4294967296 := by have := (u32_wf g0_1).2; omega
  have hs : a1.size ≤ 140737488355328 := Nat.le_trans g1 (by omega)
  unfold barbicanlaw01_LabelTexts.f
  have hnum : ∀ e : Option Int, barbicanlaw01_num.f e = some (e.getD 0) := fun e => rfl
  -- the label's text
  obtain ⟨t, e, u, f, v, h1, h2, h3, h4, h5, h6, h7⟩ : ∃ (t : ByteArray) (e : Option Int) (u : ByteArray) (f : Int) (v : Option Int), label_Text.f a0_0 (a : Int) = some (t, e) ∧ barbicanref01_Text.f k a0_0 (a : Int) = some (u, f) ∧ t.toList = u.toList ∧ e.getD 0 = f ∧
      label_Valid.f a0_0 (a : Int) = some v ∧ barbicanref01_Valid.f k a0_0 (a : Int) = some (v.getD 0) ∧ True := by
    by_cases hok : Ok a0_0 a
    · exact ⟨_, _, _, _, _, text_yes _ a hok, rtext_ok k _ a (by omega) hok, rfl, rfl, valid_yes _ a hok, rvalid_ok k _ a (by omega) hok, trivial⟩
    · exact ⟨_, _, _, _, _, text_no _ a ha hok, rtext_bad k _ a ha (by omega) hok, rfl, rfl, valid_no _ a ha hok, rvalid_bad k _ a ha (by omega) hok, trivial⟩
  -- what is read
  obtain ⟨x, c, g, h8, h9⟩ : ∃ (x c : Int) (g : Option Int), label_Parse.f a1 = some (x, c, g) ∧ barbicanref01_Parse.f k a1 = some (x, c, g.getD 0) := by
    rcases parse_back a1 hs with ⟨r, c, hr, hc, rfl, h⟩ | h
    · exact ⟨_, _, _, h, rparse_text r c hr hc k (by omega)⟩
    · refine ⟨_, _, _, h, ?_⟩
      obtain ⟨x', i', hx⟩ := rl0_any a1 hs 3 k 0 0 (by omega) (by omega) (by omega)
      unfold barbicanref01_Parse.f
      refine Eq.trans hx ?_
      unfold fin
      by_cases hf : Ok x' (orAny (a1.data.toList.drop i') 0) ∧ textB x'.toNat (orAny (a1.data.toList.drop i') 0) = a1
      · exfalso
        obtain ⟨hok, ht⟩ := hf
        have hp := parse_text x'.toNat _ (by have := hok.2.1; omega) hok.2.2
        rw [ht, h] at hp
        simp at hp
      · rw [if_neg hf]
        rfl
  rw [h1, Option.bind_some, h2, Option.bind_some, h8, Option.bind_some, h9, Option.bind_some, if_pos h3, hnum, Option.bind_some, if_pos h4, if_pos (by simp), hnum, Option.bind_some, if_pos rfl, h5, Option.bind_some, hnum, Option.bind_some, h6, Option.bind_some, if_pos rfl, sure01, Option.bind_some]
end Go.Proofs.YtckgmbkhdgcldaaDoor.Pure
