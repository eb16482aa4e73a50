/- The plain law of numbers as bytes, read: what Uint, Int and Text tell of bytes. -/
import Derived.Test.YtindggjkcnelcaaXAllx4
import Derived.Test.YtindggjkcnelcaaPackL
import Derived.Laws.BitsAllLaws
namespace Go.Proofs.Ytindggjkcnelcaa.PackL
open Go.RowKit Go.Proofs.Ytindggjkcnelcaa.XAll Go.Proofs.YtindggjkcnelcaaW.PrintWords Go.Proofs.YtindggjkcnelcaaW.PrintLast Go.Proofs.YtindggjkcnelcaaW.PrintMore
set_option linter.unusedVariables false
set_option linter.unusedSimpArgs false
/-- What is read of bytes: the number and how many they are, or the error; so many bytes at most. -/
def rv : Nat → List Int → Int ⊕ (Int × Nat)
  | 0, _ => .inl 3
  | _ + 1, [] => .inl 12
  | d + 1, c :: rest =>
    if d = 0 ∧ 1 < c then .inl 3
    else if c < 128 then (if c = 0 ∧ d ≠ 9 then .inl 3 else .inr (c, 1))
    else match rv d rest with
      | .inl e => .inl e
      | .inr (v, n) => .inr (c - 128 + 128 * v, n + 1)
theorem rv_uv (j : Nat) : ∀ (n : Int) (rest : List Int), 0 ≤ n → n < 2 * 128 ^ j → (j = 9 ∨ 0 < n) → rv (j + 1) (uv j n ++ rest) = .inr (n, (uv j n).length) := by
  induction j with
  | zero =>
    intro n rest h0 h1 h2
    simp only [uv, List.singleton_append, rv]
    rw [if_neg (by omega), if_pos (by omega), if_neg (by omega)]
    rfl
  | succ j ih =>
    intro n rest h0 h1 h2
    rw [Int.pow_succ] at h1
    simp only [uv]
    by_cases hn : 128 ≤ n
    · rw [if_pos hn, List.cons_append]
      unfold rv
      rw [if_neg (by omega), if_neg (by omega), ih (n / 128) rest (by omega) (by omega) (by omega)]
      simp only [List.length_cons]
      rw [show n % 128 + 128 - 128 + 128 * (n / 128) = n by omega]
    · rw [if_neg hn, List.singleton_append]
      unfold rv
      rw [if_neg (by omega), if_pos (by omega), if_neg (by omega)]
      rfl
theorem rv_rev (j : Nat) : ∀ (l : List Int) (v : Int) (n : Nat), j ≤ 9 → (∀ x ∈ l, 0 ≤ x ∧ x < 256) → rv (j + 1) l = .inr (v, n) → 0 ≤ v ∧ v < 2 * 128 ^ j ∧ (j = 9 ∨ 0 < v) ∧ 1 ≤ n ∧ n ≤ l.length ∧ l.take n = uv j v := by
  induction j with
  | zero =>
    intro l v n hj hb h
    cases l with
    | nil => simp [rv] at h
    | cons c rest =>
      have hc := hb c (by simp)
      unfold rv at h
      by_cases h1 : 1 < c
      · rw [if_pos ⟨rfl, h1⟩] at h; simp at h
      · rw [if_neg (by omega), if_pos (by omega)] at h
        by_cases h2 : c = 0
        · rw [if_pos ⟨h2, by decide⟩] at h; simp at h
        · rw [if_neg (by omega)] at h
          simp only [Sum.inr.injEq, Prod.mk.injEq] at h
          obtain ⟨rfl, rfl⟩ := h
          refine ⟨by omega, by omega, by omega, by omega, by simp, by simp [uv]⟩
  | succ j ih =>
    intro l v n hj hb h
    have hp : (128 : Int) ^ j * 128 = 128 ^ (j + 1) := (Int.pow_succ 128 j).symm
    have hpos : (0 : Int) < 128 ^ j := Int.pow_pos (by omega)
    cases l with
    | nil => simp [rv] at h
    | cons c rest =>
      have hc := hb c (by simp)
      unfold rv at h
      rw [if_neg (by omega)] at h
      by_cases h1 : c < 128
      · rw [if_pos h1] at h
        by_cases h2 : c = 0 ∧ j + 1 ≠ 9
        · rw [if_pos h2] at h; simp at h
        · rw [if_neg h2] at h
          simp only [Sum.inr.injEq, Prod.mk.injEq] at h
          obtain ⟨rfl, rfl⟩ := h
          refine ⟨by omega, by omega, by omega, by omega, by simp, ?_⟩
          simp only [uv]
          rw [if_neg (by omega)]
          simp
      · rw [if_neg h1] at h
        cases hr : rv (j + 1) rest with
        | inl e => rw [hr] at h; simp at h
        | inr p =>
          obtain ⟨v', n'⟩ := p
          rw [hr] at h
          simp only [Sum.inr.injEq, Prod.mk.injEq] at h
          obtain ⟨rfl, rfl⟩ := h
          obtain ⟨a1, a2, a3, a4, a5, a6⟩ := ih rest v' n' (by omega) (fun x hx => hb x (by simp [hx])) hr
          refine ⟨by omega, by omega, by omega, by omega, by simp; omega, ?_⟩
          simp only [uv]
          rw [if_pos (by omega), List.take_succ_cons, a6, show (c - 128 + 128 * v') % 128 + 128 = c by omega, show (c - 128 + 128 * v') / 128 = v' by omega]
theorem andNot128 (x : Int) (h0 : 0 ≤ x) (h1 : x < 256) : Go.bits .andNot .u8 x 128 = x % 128 := by
  have h : ∀ i : Fin 256, Go.bits .andNot .u8 (i.val : Int) 128 = (i.val : Int) % 128 := by decide +kernel
  have := h ⟨x.toNat, by omega⟩
  simpa [Int.toNat_of_nonneg h0] using this
theorem or_low (a b i : Nat) (h : b < 2 ^ i) : b ||| a * 2 ^ i = b + a * 2 ^ i := by
  have := Nat.shiftLeft_add_eq_or_of_lt h a
  rw [Nat.shiftLeft_eq] at this
  rw [Nat.or_comm, ← this, Nat.add_comm]
theorem orshl (a c i : Nat) (hi : i ≤ 9) (ha : a < 128 ^ i) (hc : c < 256) (h9 : i = 9 → c ≤ 1) :
    Go.bits .or .u64 (a : Int) (shl .u64 (IntKind.u64.wrap (Go.bits .andNot .u8 (c : Int) 128)) (IntKind.u64.wrap (wrap64 (7 * (i : Int))))) = ((a + c % 128 * 128 ^ i : Nat) : Int) := by
  have hpow : 2 ^ (7 * i) = 128 ^ i := by rw [Nat.pow_mul]
  have hle : 128 ^ i ≤ 128 ^ 9 := Nat.pow_le_pow_right (by omega) hi
  have hlt : c % 128 * 128 ^ i < 18446744073709551616 := by
    by_cases h : i = 9
    · subst h; have := h9 rfl; have : c % 128 ≤ 1 := by omega
      calc c % 128 * 128 ^ 9 ≤ 1 * 128 ^ 9 := Nat.mul_le_mul_right _ this
        _ < 18446744073709551616 := by decide
    · have h8 : 128 ^ i ≤ 128 ^ 8 := Nat.pow_le_pow_right (by omega) (by omega)
      calc c % 128 * 128 ^ i ≤ 127 * 128 ^ 8 := Nat.mul_le_mul (by omega) h8
        _ < 18446744073709551616 := by decide
  have hshl : shl .u64 (IntKind.u64.wrap (Go.bits .andNot .u8 (c : Int) 128)) (IntKind.u64.wrap (wrap64 (7 * (i : Int)))) = ((c % 128 * 128 ^ i : Nat) : Int) := by
    rw [andNot128 _ (by omega) (by omega), wrap64_small _ (by omega) (by omega), u64_small (7 * (i : Int)) (by omega) (by omega), u64_small _ (by omega) (by omega)]
    unfold shl
    rw [show (7 * (i : Int)).toNat = 7 * i by omega, Nat.min_eq_left (by show 7 * i ≤ 64; omega)]
    have e : ((c : Int) % 128) * 2 ^ (7 * i) = ((c % 128 * 128 ^ i : Nat) : Int) := by
      rw [Int.natCast_mul, ← hpow]
      simp
    rw [e]
    exact u64_small _ (by omega) (by omega)
  rw [hshl, Go.u64_or_nat _ _ (by omega) (by omega), ← hpow, or_low _ _ _ (by rw [hpow]; exact ha)]
/-- What Uint answers, of what is read. -/
def told (a : Int) (i : Nat) : Int ⊕ (Int × Nat) → Int × Int × Option Int
  | .inl e => (0, 0, some e)
  | .inr (v, n) => (a + v * 128 ^ i, ((i + n : Nat) : Int), none)
theorem u7 (x : Int) : 0 ≤ IntKind.u64.wrap x := by rw [u64_mod]; omega
set_option maxHeartbeats 2000000 in
theorem read_l0 (l : List Int) (hb : ∀ x ∈ l, 0 ≤ x ∧ x < 256) (hl : l.length ≤ 140737488355328) (d : Nat) : ∀ (k i a : Nat), i + d = 10 → a < 128 ^ i → i ≤ l.length → 2 * d + 1 < k →
    pack_Uint.l0 k l (a : Int) (i : Int) = some (told (a : Int) i (rv d (l.drop i))) := by
  induction d with
  | zero =>
    intro k i a hi ha hil hk
    obtain ⟨k, rfl⟩ : ∃ q, k = q + 1 := ⟨k - 1, by omega⟩
    simp only [pack_Uint.l0]
    rw [if_neg (by omega)]
    rfl
  | succ d ih =>
    intro k i a hi ha hil hk
    obtain ⟨k, rfl⟩ : ∃ q, k = q + 2 := ⟨k - 2, by omega⟩
    simp only [pack_Uint.l0]
    rw [if_pos (by omega)]
    by_cases hend : i = l.length
    · rw [if_pos (by omega)]
      subst hend
      rw [List.drop_length]
      rfl
    · have hlt : i < l.length := by omega
      have hc := hb l[i] (List.getElem_mem _)
      have hrd : rd l (i : Int) = l[i] := by unfold rd; rw [Int.toNat_natCast]; simp [hlt]
      rw [if_neg (by omega), if_pos (by omega), if_pos (by omega), hrd, List.drop_eq_getElem_cons hlt]
      generalize l[i] = c at hc
      obtain ⟨c, rfl⟩ := Int.eq_ofNat_of_zero_le hc.1
      have hj : (if (i : Int) = 9 then pack_Uint.j1 (k + 1) l a i c i (decide ((c : Int) > 1)) else pack_Uint.j1 (k + 1) l a i c i false) = pack_Uint.j1 (k + 1) l a i c i (decide (d = 0 ∧ 1 < c)) := by
        by_cases h9 : d = 0
        · rw [if_pos (by omega)]
          congr 1
          simp only [decide_eq_decide]
          omega
        · rw [if_neg (by omega)]
          congr 1
          exact (decide_eq_false (by omega)).symm
      rw [hj]
      simp only [pack_Uint.j1]
      unfold rv
      by_cases hbad : d = 0 ∧ 1 < c
      · rw [if_pos (by simpa using hbad), if_pos (by omega)]
        rfl
      · have hor := orshl a c i (by omega) ha (by omega) (by omega)
        have hw : wrap64 ((i : Int) + 1) = ((i + 1 : Nat) : Int) := by rw [wrap64_small _ (by omega) (by omega)]; omega
        have hu : 0 ≤ IntKind.u64.wrap (wrap64 (7 * (i : Int))) := u7 _
        clear hj
        rw [if_neg (by simpa using hbad), if_pos hu, hor, hw, if_neg (show ¬ (d = 0 ∧ 1 < (c : Int)) by clear hor hw hu; omega)]
        by_cases h128 : c < 128
        · have c1 : (c : Int) < 128 := by clear hor hw hu; omega
          rw [if_pos c1, if_pos c1]
          have hv : ((a + c % 128 * 128 ^ i : Nat) : Int) = (a : Int) + (c : Int) * 128 ^ i := by
            rw [Nat.mod_eq_of_lt h128, Int.natCast_add, Int.natCast_mul]
            simp
          by_cases h0 : c = 0
          · have c2 : (c : Int) = 0 := by clear hor hw hu; omega
            rw [if_pos c2]
            by_cases hi0 : i = 0
            · have c3 : ¬ (i : Int) > 0 := by clear hor hw hu; omega
              have c4 : ¬ ((c : Int) = 0 ∧ d ≠ 9) := by clear hor hw hu; omega
              rw [if_neg c3, if_neg c4, hv]
              rfl
            · have c3 : (i : Int) > 0 := by clear hor hw hu; omega
              have c4 : (c : Int) = 0 ∧ d ≠ 9 := by clear hor hw hu; omega
              rw [if_pos c3, if_pos c4]
              rfl
          · have c2 : ¬ (c : Int) = 0 := by clear hor hw hu; omega
            have c4 : ¬ ((c : Int) = 0 ∧ d ≠ 9) := by clear hor hw hu; omega
            rw [if_neg c2, if_neg c4, hv]
            rfl
        · have c1 : ¬ (c : Int) < 128 := by clear hor hw hu; omega
          rw [if_neg c1, if_neg c1]
          have hlt2 : a + c % 128 * 128 ^ i < 128 ^ (i + 1) := by
            rw [Nat.pow_succ]
            have : c % 128 * 128 ^ i ≤ 127 * 128 ^ i := Nat.mul_le_mul_right _ (by clear hor hw hu; omega)
            clear hor hw hu
            omega
          rw [ih k (i + 1) _ (by clear hor hw hu; omega) hlt2 (by clear hor hw hu; omega) (by clear hor hw hu; omega)]
          congr 1
          cases rv d (l.drop (i + 1)) with
          | inl e => rfl
          | inr p =>
            obtain ⟨v, n⟩ := p
            simp only [told, Prod.mk.injEq]
            refine ⟨?_, by clear hor hw hu; omega, trivial⟩
            have e1 : ((a + c % 128 * 128 ^ i : Nat) : Int) = (a : Int) + ((c : Int) - 128) * 128 ^ i := by
              rw [show c % 128 = c - 128 by omega, Int.natCast_add, Int.natCast_mul, Int.natCast_sub (by clear hor hw hu; omega)]
              simp
            rw [e1, Int.pow_succ, Int.add_mul, Int.add_assoc]
            congr 2
            rw [Int.mul_comm (128 ^ i) 128, ← Int.mul_assoc, Int.mul_comm v 128]
theorem uint_f (k : Nat) (l : List Int) (hb : ∀ x ∈ l, 0 ≤ x ∧ x < 256) (hl : l.length ≤ 140737488355328) (hk : 22 ≤ k) : pack_Uint.f k l = some (told 0 0 (rv 10 l)) := by
  unfold pack_Uint.f
  have h := read_l0 l hb hl 10 k 0 0 (by omega) (by simp) (by omega) (by omega)
  simpa using h
theorem uint_lays (k : Nat) (n : Int) (rest : List Int) (h0 : 0 ≤ n) (h1 : n < 18446744073709551616) (hb : ∀ x ∈ rest, 0 ≤ x ∧ x < 256) (hl : rest.length ≤ 140737488355318) (hk : 22 ≤ k) :
    pack_Uint.f k (uv 9 n ++ rest) = some (n, ((uv 9 n).length : Int), none) := by
  have hlen := uv_len 9 n
  rw [uint_f k _ ?_ (by simp; omega) hk, rv_uv 9 n rest h0 (by omega) (.inl rfl)]
  · simp [told]
  · intro x hx
    rcases List.mem_append.1 hx with h | h
    · exact uv_byte 9 n h0 (by omega) x h
    · exact hb x h
end Go.Proofs.Ytindggjkcnelcaa.PackL
