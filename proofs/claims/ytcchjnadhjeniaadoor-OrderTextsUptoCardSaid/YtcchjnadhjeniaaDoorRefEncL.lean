/- The document's text of values is the program's. -/
import Derived.Test.YtcchjnadhjeniaaDoorXAllx8
import Derived.Test.YtcchjnadhjeniaaDoorEncL
namespace Go.Proofs.YtcchjnadhjeniaaDoor.Pure
open Go.RowKit Go.Proofs.YtcchjnadhjeniaaDoor.XAll Go.Proofs.YtcchjnadhjeniaaDoorW.PrintWords Go.Proofs.YtcchjnadhjeniaaDoorW.PrintLast Go.Proofs.YtcchjnadhjeniaaDoorW.PrintMore
set_option linter.unusedVariables false
set_option linter.unusedSimpArgs false
open ValueL
namespace EncL
def allPrinted (s : ByteArray) : Prop := ∀ c ∈ bytesOf s, 32 ≤ c ∧ c ≤ 126
theorem bt_bytes (s : ByteArray) (j : Nat) (h : j < s.size) : ∃ hb : j < (bytesOf s).length, bt s (j : Int) = (bytesOf s)[j] := by
  have hb : j < (bytesOf s).length := by rw [bytesOf_length]; exact h
  refine ⟨hb, ?_⟩
  have := son_bt (bytesOf s) (bytesOf_byt s) j hb
  rw [son_bytesOf] at this
  exact this
theorem idx_printed (s : ByteArray) (h : allPrinted s) : ∀ f pos : Nat, Lib.idxFuncFrom notPrinted true s f pos = -1
  | 0, pos => rfl
  | f + 1, pos => by
    unfold Lib.idxFuncFrom
    by_cases hlt : pos < s.size
    · obtain ⟨hb, he⟩ := bt_bytes s pos hlt
      have hp := h _ (List.getElem_mem hb)
      have hbt : bt s (pos : Int) = ((s[pos]'hlt).toNat : Int) := by
        unfold bt
        rw [dif_pos (by rw [Int.toNat_natCast]; exact hlt)]
        simp
      rw [← he, hbt] at hp
      rw [if_pos hlt, decode_ascii s pos hlt (by omega)]
      dsimp only
      rw [if_neg (by unfold notPrinted; simp; omega)]
      exact idx_printed s h f (pos + 1)
    · rw [if_neg hlt]
theorem idx_neg (s : ByteArray) : ¬ 0 ≤ Lib.idxFunc notPrinted true s ↔ allPrinted s := by
  constructor
  · intro hi c hc
    obtain ⟨j, hj, rfl⟩ := List.mem_iff_getElem.1 hc
    have hj' : j < s.size := by rw [bytesOf_length] at hj; exact hj
    have h := printed_from s s.size 0 (by omega) hi j (by omega) hj'
    obtain ⟨hb, he⟩ := bt_bytes s j hj'
    have hbt : bt s (j : Int) = ((s[j]'hj').toNat : Int) := by
      unfold bt
      rw [dif_pos (by rw [Int.toNat_natCast]; exact hj')]
      simp
    rw [← he, hbt]
    omega
  · intro h
    unfold Lib.idxFunc
    rw [idx_printed s h]
    omega
theorem ref_text (s : ByteArray) (hs : s.size ≤ 4096) (a0 a1 : Int) (a3 : Bool) : ∀ (d i k : Nat), i + d = s.size → d < k → (∀ j, j < i → 32 ≤ bt s (j : Int) ∧ bt s (j : Int) ≤ 126) →
    barbicanref05_Valid.l0 k (i : Int) a0 a1 s a3 = some ((if 0 ≤ Lib.idxFunc notPrinted true s then some 3 else none : Option Int).getD 0)
  | 0, i, k, hi, hk, hp => by
    obtain ⟨k, rfl⟩ : ∃ q, k = q + 1 := ⟨k - 1, by omega⟩
    simp only [barbicanref05_Valid.l0]
    rw [if_neg (by omega), if_neg]
    · rfl
    · rw [idx_neg]
      intro c hc
      obtain ⟨j, hj, rfl⟩ := List.mem_iff_getElem.1 hc
      have hj' : j < s.size := by rw [bytesOf_length] at hj; exact hj
      obtain ⟨hb, he⟩ := bt_bytes s j hj'
      rw [← he]
      exact hp j (by omega)
  | d + 1, i, k, hi, hk, hp => by
    obtain ⟨k, rfl⟩ : ∃ q, k = q + 1 := ⟨k - 1, by omega⟩
    have his : i < s.size := by omega
    simp only [barbicanref05_Valid.l0]
    rw [if_pos (by omega), if_pos (by omega)]
    obtain ⟨hb, he⟩ := bt_bytes s i his
    have hbad : ¬ (32 ≤ bt s (i : Int) ∧ bt s (i : Int) ≤ 126) → 0 ≤ Lib.idxFunc notPrinted true s := by
      intro hn
      apply Decidable.byContradiction
      intro hc
      rw [idx_neg] at hc
      exact hn (by rw [he]; exact hc _ (List.getElem_mem hb))
    by_cases h1 : bt s (i : Int) < 32
    · rw [if_pos h1, if_pos (hbad (by omega))]
      rfl
    · rw [if_neg h1]
      by_cases h2 : bt s (i : Int) > 126
      · rw [if_pos h2, if_pos (hbad (by omega))]
        rfl
      · rw [if_neg h2, show wrap64 ((i : Int) + 1) = ((i + 1 : Nat) : Int) by rw [w64 _ (by omega) (by omega)]; omega]
        refine ref_text s hs a0 a1 a3 d (i + 1) k (by omega) (by omega) (fun j hj => ?_)
        by_cases hji : j = i
        · subst hji; omega
        · exact hp j (by omega)
theorem ref_j0 (k : Nat) (hk : 4200 ≤ k) (b : Bool) (a0 a1 : Int) (s : ByteArray) (a3 : Bool) : barbicanref05_Valid.j0 k b a0 a1 s a3 = some ((if b = true then some 3 else tailv s : Option Int).getD 0) := by
  obtain ⟨k, rfl⟩ : ∃ q, k = q + 1 := ⟨k - 1, by omega⟩
  simp only [barbicanref05_Valid.j0]
  cases b with
  | true => rw [if_pos rfl, if_pos rfl]; rfl
  | false =>
    rw [if_neg (show ¬ (false = true) by decide), if_neg (show ¬ (false = true) by decide)]
    unfold tailv
    by_cases h : 4096 < s.size
    · rw [if_pos (by omega), if_pos h]; rfl
    · rw [if_neg (by omega), if_neg h]
      have := ref_text s (by omega) a0 a1 a3 s.size 0 k (by omega) (by omega) (fun j hj => by omega)
      exact this
theorem ref_valid (k : Nat) (hk : 4200 ≤ k) (x : S41) : barbicanref05_Valid.f k x.f0 x.f1 x.f2 x.f3 = some ((valid x).getD 0) := by
  obtain ⟨a, b, s, t⟩ := x
  unfold barbicanref05_Valid.f valid shape
  simp only [ref_j0 k hk, Lib.toList_data]
  obtain ⟨L, hL⟩ : ∃ L, L = s.data.toList := ⟨_, rfl⟩
  rw [← hL]
  clear hL
  by_cases hlo : a < 0
  · have g0 : (a == 0) = false := beq_eq_false_iff_ne.mpr (by omega)
    have g1 : (a == 1) = false := beq_eq_false_iff_ne.mpr (by omega)
    have g2 : (a == 2) = false := beq_eq_false_iff_ne.mpr (by omega)
    have g3 : (a == 3) = false := beq_eq_false_iff_ne.mpr (by omega)
    simp [hlo, g0, g1, g2, g3]
  · by_cases hhi : a > 3
    · have g0 : (a == 0) = false := beq_eq_false_iff_ne.mpr (by omega)
      have g1 : (a == 1) = false := beq_eq_false_iff_ne.mpr (by omega)
      have g2 : (a == 2) = false := beq_eq_false_iff_ne.mpr (by omega)
      have g3 : (a == 3) = false := beq_eq_false_iff_ne.mpr (by omega)
      simp [hlo, hhi, g0, g1, g2, g3]
    · have hk4 : a = 0 ∨ a = 1 ∨ a = 2 ∨ a = 3 := by omega
      by_cases hb : b = 0 <;> by_cases hs : L = [] <;> cases t <;> rcases hk4 with rfl | rfl | rfl | rfl <;> simp [hb, hs]
theorem up_bytes (n : Int) (h : -9223372036854775808 ≤ n ∧ n ≤ 9223372036854775807) (a : Nat) (ha : IntKind.u64.wrap n = (a : Int)) :
    Go.bits .xor .u8 ((a : Int) / 72057594037927936 % 256) 128 = ((up n / 72057594037927936 % 256 : Nat) : Int) ∧ (∀ d : Nat, d < 7 → a / 256 ^ d % 256 = up n / 256 ^ d % 256) := by
  have hn : (a : Int) = n % 18446744073709551616 := by
    rw [← ha]
    simp [IntKind.wrap, IntKind.signed, IntKind.bits]
  have hup : up n = a + 9223372036854775808 ∧ a < 9223372036854775808 ∨ a = up n + 9223372036854775808 ∧ up n < 9223372036854775808 := by
    unfold up
    omega
  clear ha
  constructor
  · have h128 : ∀ i : Fin 256, Go.bits .xor .u8 (i.val : Int) 128 = (((i.val + 128) % 256 : Nat) : Int) := by decide +kernel
    have := h128 ⟨a / 72057594037927936 % 256, Nat.mod_lt _ (by omega)⟩
    have e : ((a : Int) / 72057594037927936 % 256) = ((a / 72057594037927936 % 256 : Nat) : Int) := by omega
    rw [e]
    refine this.trans ?_
    rcases hup with hup | hup
    · congr 1
      dsimp only
      omega
    · congr 1
      dsimp only
      omega
  · intro d hd
    have h7 : d = 0 ∨ d = 1 ∨ d = 2 ∨ d = 3 ∨ d = 4 ∨ d = 5 ∨ d = 6 := by omega
    rcases h7 with rfl | rfl | rfl | rfl | rfl | rfl | rfl <;> simp only [Nat.reducePow] <;> omega
theorem wrap_nat (n : Int) : ∃ a : Nat, IntKind.u64.wrap n = (a : Int) ∧ a < 18446744073709551616 := by
  refine ⟨(IntKind.u64.wrap n).toNat, ?_, ?_⟩ <;> first | (simp [IntKind.wrap, IntKind.signed, IntKind.bits]; done) | (simp [IntKind.wrap, IntKind.signed, IntKind.bits]; omega)
theorem beN_succ (d n : Nat) : beN (d + 1) n = ((n / 256 ^ d % 256 : Nat) : Int) :: beN d n := rfl
theorem ref_low (x0 : List S41) (j f0 f1 : Int) (f2 : ByteArray) (f3 : Bool) (h : -9223372036854775808 ≤ f1 ∧ f1 ≤ 9223372036854775807) :
    ∀ (d q : Nat) (b : List Int), d ≤ 7 → b.length + d ≤ 140737488355300 → barbicanref06_Encode.l2 (q + d + 1) x0 b j ((d : Int) - 1) f0 f1 f2 f3 = barbicanref06_Encode.l1 q x0 (b ++ beN d (up f1)) (wrap64 (j + 1))
  | 0, q, b, hd, hb => by
    simp only [barbicanref06_Encode.l2]
    rw [if_neg (by omega)]
    simp [beN]
  | d + 1, q, b, hd, hb => by
    obtain ⟨a, ha, ha2⟩ := wrap_nat f1
    have hu := (up_bytes f1 h a ha).2 d (by omega)
    obtain ⟨m, hm⟩ : ∃ m, m = q + d + 1 := ⟨_, rfl⟩
    rw [show q + (d + 1) + 1 = m + 1 by omega]
    simp only [barbicanref06_Encode.l2]
    have e0 : (((d + 1 : Nat) : Int) - 1) = (d : Int) := by omega
    have e1 : IntKind.u64.wrap (wrap64 (8 * (d : Int))) = ((8 * d : Nat) : Int) := by
      rw [w64 _ (by omega) (by omega)]
      simp [IntKind.wrap, IntKind.signed, IntKind.bits]
      omega
    have e2 : wrap64 ((d : Int) - 1) = (d : Int) - 1 := w64 _ (by omega) (by omega)
    rw [e0, e1, e2, if_pos (by omega), if_pos (by omega), if_neg (by omega), if_pos (by omega), ha]
    have e3 : shr .u64 (a : Int) ((8 * d : Nat) : Int) % 256 = ((up f1 / 256 ^ d % 256 : Nat) : Int) := by
      unfold shr
      have hp : ((2 ^ (8 * d) : Nat) : Int) = ((256 ^ d : Nat) : Int) := by rw [Nat.pow_mul]
      have hp2 : (2 : Int) ^ (8 * d) = ((2 ^ (8 * d) : Nat) : Int) := by simp
      rw [Int.toNat_natCast, Nat.min_eq_left (by show 8 * d ≤ 64; omega), hp2, hp, ← hu]
      simp
    rw [e3, hm, ref_low x0 j f0 f1 f2 f3 h d q _ (by omega) (by simp; omega)]
    simp [beN]
theorem ref_word (x0 : List S41) (j f0 f1 : Int) (f2 : ByteArray) (f3 : Bool) (h : -9223372036854775808 ≤ f1 ∧ f1 ≤ 9223372036854775807) (q : Nat) (b : List Int) (hb : b.length ≤ 140737488355000) :
    barbicanref06_Encode.l2 (q + 9) x0 b j 7 f0 f1 f2 f3 = barbicanref06_Encode.l1 q x0 (b ++ beN 8 (up f1)) (wrap64 (j + 1)) := by
  obtain ⟨a, ha, ha2⟩ := wrap_nat f1
  have hu := (up_bytes f1 h a ha).1
  obtain ⟨m, hm⟩ : ∃ m, m = q + 7 + 1 := ⟨_, rfl⟩
  rw [show q + 9 = m + 1 by omega]
  simp only [barbicanref06_Encode.l2]
  have e1 : IntKind.u64.wrap (wrap64 (8 * 7)) = 56 := by decide +kernel
  have e2 : wrap64 (7 - 1) = ((7 : Nat) : Int) - 1 := by decide +kernel
  rw [e1, e2, if_pos (by omega), if_pos (by omega), if_pos trivial, if_pos (by omega), ha]
  have e3 : shr .u64 (a : Int) 56 % 256 = (a : Int) / 72057594037927936 % 256 := by
    unfold shr
    have hp : (2 : Int) ^ min (56 : Int).toNat IntKind.u64.bits = 72057594037927936 := by decide +kernel
    rw [hp]
  rw [e3, hu, hm, ref_low x0 j f0 f1 f2 f3 h 7 q _ (by omega) (by simp; omega)]
  have e8 : beN 8 (up f1) = ((up f1 / 72057594037927936 % 256 : Nat) : Int) :: beN 7 (up f1) := by
    have h8 := beN_succ 7 (up f1)
    rw [show (256 : Nat) ^ 7 = 72057594037927936 by decide] at h8
    exact h8
  rw [e8]
  simp
theorem valid_ne (x : S41) (c : Int) (h : valid x = some c) : c = 2 ∨ c = 3 := by
  unfold valid tailv at h
  repeat' split at h
  all_goals first
    | (injection h with h; omega)
    | cases h
theorem ref_l1 (l : List S41) (hl : l.length ≤ 16) (hv : ∀ x ∈ l, Ok x) : ∀ (d i k : Nat) (b : List Int), i + d = l.length → 12 * d + 2 ≤ k → b.length ≤ 4100 * i → barbicanref06_Encode.l1 k l b (i : Int) = some (strOfNums (b ++ encL (l.drop i)), 0) := by
  intro d
  induction d with
  | zero =>
    intro i k b hi hk hb
    obtain ⟨k, rfl⟩ : ∃ q, k = q + 1 := ⟨k - 1, by omega⟩
    simp only [barbicanref06_Encode.l1]
    rw [if_neg (by omega), List.drop_eq_nil_of_le (by omega)]
    simp [encL]
  | succ d ihd =>
    intro i k b hi hk hb
    obtain ⟨k, rfl⟩ : ∃ q, k = q + 1 := ⟨k - 1, by omega⟩
    obtain ⟨k9, hk9⟩ : ∃ q, k = q + 9 := ⟨k - 9, by omega⟩
    have hil : i < l.length := by omega
    have ho := hv l[i] (List.getElem_mem hil)
    have hlen := encI_len ho
    have hsz := ho.size
    have ih := fun c q (hc : List.length c ≤ 4100 * (i + 1)) (hq : 12 * d + 2 ≤ q) => ihd (i + 1) q c (by omega) hq hc
    have hstep : wrap64 ((i : Int) + 1) = ((i + 1 : Nat) : Int) := by rw [w64 _ (by omega) (by omega)]; omega
    have hsc := shape_cases ho.shape
    have h03 : 0 ≤ (l[i]).f0 ∧ (l[i]).f0 ≤ 3 := by rcases hsc with h | h | h | h <;> omega
    simp only [barbicanref06_Encode.l1]
    rw [if_pos (by omega), if_pos (by omega), if_pos (by omega), Option.bind_some, rd_at l i hil, hstep, rd_drop l i hil]
    obtain ⟨x, hx⟩ : ∃ x, x = l[i] := ⟨_, rfl⟩
    rw [← hx] at ho hlen hsz h03 ⊢
    rw [show wrap64 (x.f0 + 1) % 256 = (x.f0 + 1) % 256 by rw [w64 _ (by omega) (by omega)]]
    by_cases h1 : x.f0 = 1
    · rw [if_pos h1, hk9, ref_word l (i : Int) _ _ _ _ ho.i k9 _ (by simp; omega), hstep, ih _ _ (by simp [beN_len]; omega) (by omega)]
      congr 3
      unfold encI
      rw [if_pos h1]
      simp
    · rw [if_neg h1]
      by_cases h2 : x.f0 = 2
      · rw [if_pos h2, if_pos (by simp; omega), Option.bind_some, if_pos (by simp [bytesOf_length]; omega), ih _ _ (by simp [bytesOf_length]; omega) (by omega)]
        congr 3
        unfold encI
        rw [if_neg h1, if_pos h2]
        simp
      · rw [if_neg h2]
        by_cases h3 : x.f0 = 3
        · rw [if_pos h3]
          by_cases h4 : x.f3 = true
          · rw [if_pos h4, if_pos (by simp; omega), ih _ _ (by simp; omega) (by omega)]
            congr 3
            unfold encI
            rw [if_neg h1, if_neg h2, if_pos h3, if_pos h4]
            simp
          · rw [if_neg h4, if_pos (by simp; omega), ih _ _ (by simp; omega) (by omega)]
            congr 3
            unfold encI
            rw [if_neg h1, if_neg h2, if_pos h3, if_neg h4]
            simp
        · rw [if_neg h3, ih _ _ (by simp; omega) (by omega)]
          congr 3
          unfold encI
          rw [if_neg h1, if_neg h2, if_neg h3]
          simp
/-- An answer as the document spells it. -/
def told (r : ByteArray × Option Int) : ByteArray × Int := (r.1, r.2.getD 0)
theorem ref_l0 (l : List S41) (hl : l.length < 4611686018427387904) (hr : ∀ x ∈ l, -9223372036854775808 ≤ x.f1 ∧ x.f1 ≤ 9223372036854775807) :
    ∀ (d i k : Nat), i + d = l.length → d + 4300 ≤ k → (∀ j (hj : j < l.length), j < i → valid l[j] = none) → barbicanref06_Encode.l0 k l (i : Int) = some (told (if firstBad (l.drop i) = none then (if 16 < l.length then (⟨#[]⟩, some 2) else (strOfNums (encL l), none)) else (⟨#[]⟩, firstBad (l.drop i))))
  | 0, i, k, hi, hk, hp => by
    obtain ⟨k, rfl⟩ : ∃ q, k = q + 1 := ⟨k - 1, by omega⟩
    simp only [barbicanref06_Encode.l0]
    rw [if_neg (by omega), List.drop_eq_nil_of_le (by omega), show firstBad ([] : List S41) = none from rfl, if_pos (show (none : Option Int) = none from rfl)]
    by_cases h16 : 16 < l.length
    · rw [if_pos (by omega), if_pos h16]; rfl
    · rw [if_neg (by omega), if_neg h16]
      have hok : ∀ x ∈ l, Ok x := by
        intro x hx
        obtain ⟨j, hj, rfl⟩ := List.mem_iff_getElem.1 hx
        exact ⟨hp j hj (by omega), hr _ hx⟩
      have h := ref_l1 l (by omega) hok l.length 0 k [] (by omega) (by omega) (by simp)
      simpa [told] using h
  | d + 1, i, k, hi, hk, hp => by
    obtain ⟨k, rfl⟩ : ∃ q, k = q + 1 := ⟨k - 1, by omega⟩
    have hil : i < l.length := by omega
    simp only [barbicanref06_Encode.l0]
    rw [if_pos (by omega), if_pos (by omega), rd_at l i hil, ref_valid k (by omega), Option.bind_some, List.drop_eq_getElem_cons hil]
    by_cases hv : valid l[i] = none
    · rw [firstBad_pos hv, hv, if_pos (by rfl), show wrap64 ((i : Int) + 1) = ((i + 1 : Nat) : Int) by rw [w64 _ (by omega) (by omega)]; omega]
      refine ref_l0 l hl hr d (i + 1) k (by omega) (by omega) (fun j hj hji => ?_)
      by_cases h : j = i
      · subst h; exact hv
      · exact hp j hj (by omega)
    · obtain ⟨c, hc⟩ := Option.ne_none_iff_exists'.1 hv
      have hc2 := valid_ne _ _ hc
      rw [firstBad_neg hc, hc, if_neg (by show ¬ (c = 0); omega), if_neg (show ¬ (some c = none) by simp)]
      rfl
theorem ref_encode (k : Nat) (l : List S41) (hl : l.length < 4611686018427387904) (hr : ∀ x ∈ l, -9223372036854775808 ≤ x.f1 ∧ x.f1 ≤ 9223372036854775807) (hk : l.length + 4300 ≤ k) : barbicanref06_Encode.f k l = some (told (encode l)) := by
  unfold barbicanref06_Encode.f encode
  have h := ref_l0 l hl hr l.length 0 k (by omega) (by omega) (fun j hj h => by omega)
  simpa using h
end EncL
end Go.Proofs.YtcchjnadhjeniaaDoor.Pure
