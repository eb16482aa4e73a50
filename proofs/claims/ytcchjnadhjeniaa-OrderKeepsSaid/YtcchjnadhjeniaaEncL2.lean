/- Lists of values as texts: the text of all, and that the texts are ordered as the lists are. -/
import Derived.Test.YtcchjnadhjeniaaEncL
namespace Go.Proofs.Ytcchjnadhjeniaa.Pure
open Go.RowKit Go.Proofs.Ytcchjnadhjeniaa.XAll Go.Proofs.YtcchjnadhjeniaaW.PrintWords Go.Proofs.YtcchjnadhjeniaaW.PrintLast Go.Proofs.YtcchjnadhjeniaaW.PrintMore
set_option linter.unusedVariables false
set_option linter.unusedSimpArgs false
open ValueL
namespace EncL
/-- A whole number, moved to where no sign is. -/
def up (n : Int) : Nat := (n + 9223372036854775808).toNat
/-- A value's bytes. -/
def encI (x : S36) : List Int :=
  ((x.f0 + 1) % 256) :: (if x.f0 = 1 then beN 8 (up x.f1) else if x.f0 = 2 then bytesOf x.f2 ++ [0] else if x.f0 = 3 then [if x.f3 = true then 1 else 0] else [])
def encL : List S36 → List Int
  | [] => []
  | x :: l => encI x ++ encL l
theorem encI_byt (x : S36) : Byt (encI x) := by
  intro c hc
  unfold encI at hc
  rcases List.mem_cons.1 hc with rfl | h
  · omega
  · split at h
    · exact beN_byt _ _ c h
    · split at h
      · rcases List.mem_append.1 h with h | h
        · exact bytesOf_byt _ c h
        · simp at h; omega
      · split at h
        · split at h <;> simp at h <;> omega
        · simp at h
theorem encL_byt : ∀ l, Byt (encL l)
  | [] => fun c hc => by simp [encL] at hc
  | x :: l => fun c hc => by
    rcases List.mem_append.1 hc with h | h
    · exact encI_byt x c h
    · exact encL_byt l c h
theorem encL_append (a b : List S36) : encL (a ++ b) = encL a ++ encL b := by
  induction a with
  | nil => rfl
  | cons x l ih => simp [encL, ih]
/-- A value that may be. -/
structure Ok (x : S36) : Prop where
  v : valid x = none
  i : -9223372036854775808 ≤ x.f1 ∧ x.f1 ≤ 9223372036854775807
theorem Ok.size {x : S36} (h : Ok x) : x.f2.size ≤ 4096 := by
  have hv := h.v
  unfold valid tailv at hv
  split at hv
  · split at hv
    · cases hv
    · omega
  · cases hv
theorem Ok.shape {x : S36} (h : Ok x) : EncL.shape x = true := by
  have hv := h.v
  unfold valid at hv
  split at hv
  · assumption
  · cases hv
theorem encI_len {x : S36} (h : Ok x) : (encI x).length ≤ 4100 := by
  have hs := h.size
  unfold encI
  rw [List.length_cons]
  split
  · rw [beN_len]; omega
  · split
    · rw [List.length_append, bytesOf_length, List.length_singleton]; omega
    · split
      · simp
      · simp
theorem up_xor (n : Int) (h0 : -9223372036854775808 ≤ n) (h1 : n ≤ 9223372036854775807) : Go.bits .xor .u64 (IntKind.u64.wrap n) 9223372036854775808 = ((up n : Nat) : Int) := by
  have hx : ∀ a : Nat, a < 18446744073709551616 → a ^^^ 9223372036854775808 = if a < 9223372036854775808 then a + 9223372036854775808 else a - 9223372036854775808 := by
    intro a ha
    have e1 : (a ^^^ 9223372036854775808) % 2 ^ 63 = a % 2 ^ 63 := by
      rw [Nat.xor_mod_two_pow, show (9223372036854775808 : Nat) % 2 ^ 63 = 0 by decide, Nat.xor_zero]
    have e2 : (a ^^^ 9223372036854775808) / 2 ^ 63 = (a / 2 ^ 63) ^^^ 1 := by
      rw [Nat.xor_div_two_pow, show (9223372036854775808 : Nat) / 2 ^ 63 = 1 by decide]
    have e3 := Nat.div_add_mod (a ^^^ 9223372036854775808) (2 ^ 63)
    rw [e1, e2] at e3
    have hq : a / 2 ^ 63 = 0 ∨ a / 2 ^ 63 = 1 := by omega
    rcases hq with hq | hq
    · rw [hq] at e3
      rw [← e3, if_pos (by omega), show (0 ^^^ 1 : Nat) = 1 by decide]
      omega
    · rw [hq] at e3
      rw [← e3, if_neg (by omega), show (1 ^^^ 1 : Nat) = 0 by decide]
      omega
  obtain ⟨a, ha⟩ : ∃ a : Nat, IntKind.u64.wrap n = (a : Int) ∧ a < 18446744073709551616 := by
    refine ⟨(IntKind.u64.wrap n).toNat, ?_, ?_⟩
    · simp [IntKind.wrap, IntKind.signed, IntKind.bits]; omega
    · simp [IntKind.wrap, IntKind.signed, IntKind.bits]; omega
  have hn : (a : Int) = n % 18446744073709551616 := by
    rw [← ha.1]
    simp [IntKind.wrap, IntKind.signed, IntKind.bits]
  rw [ha.1, show (9223372036854775808 : Int) = ((9223372036854775808 : Nat) : Int) from rfl, Go.u64_xor_nat a 9223372036854775808 ha.2 (by omega), hx a ha.2]
  unfold up
  have ha2 := ha.2
  clear hx ha
  split <;> omega
theorem rd_drop (l : List S36) (i : Nat) (h : i < l.length) : encL (l.drop i) = encI l[i] ++ encL (l.drop (i + 1)) := by
  rw [List.drop_eq_getElem_cons h]
  rfl
/-- The text of all values, laid behind what is there. -/
theorem enc_l1 (l : List S36) (hl : l.length ≤ 16) (hv : ∀ x ∈ l, Ok x) : ∀ (d i k : Nat) (b : List Int), i + d = l.length → d + 20 ≤ k → b.length ≤ 4100 * i → order_Encode.l1 k b l (l.length : Int) (i : Int) = some (strOfNums (b ++ encL (l.drop i)), none)
  | 0, i, k, b, hi, hk, hb => by
    obtain ⟨k, rfl⟩ : ∃ q, k = q + 1 := ⟨k - 1, by omega⟩
    simp only [order_Encode.l1]
    rw [if_neg (by omega), List.drop_eq_nil_of_le (by omega)]
    simp [encL]
  | d + 1, i, k, b, hi, hk, hb => by
    obtain ⟨k, rfl⟩ : ∃ q, k = q + 1 := ⟨k - 1, by omega⟩
    have hil : i < l.length := by omega
    have ho := hv l[i] (List.getElem_mem hil)
    have hlen := encI_len ho
    have hsz := ho.size
    have ih := fun c (hc : c.length ≤ 4100 * (i + 1)) => enc_l1 l hl hv d (i + 1) k c (by omega) (by omega) hc
    have hstep : wrap64 ((i : Int) + 1) = ((i + 1 : Nat) : Int) := by rw [w64 _ (by omega) (by omega)]; omega
    simp only [order_Encode.l1]
    rw [if_pos (by omega), if_pos (by omega), if_pos (by omega), if_pos (by omega), Option.bind_some, rd_at l i hil, hstep, rd_drop l i hil]
    obtain ⟨x, hx⟩ : ∃ x, x = l[i] := ⟨_, rfl⟩
    rw [← hx] at ho hlen hsz ⊢
    by_cases h1 : x.f0 = 1
    · rw [if_pos h1, up_xor x.f1 ho.i.1 ho.i.2, word_f _ _ _ (by omega) (by simp; omega), Option.bind_some, ih _ (by simp [beN_len]; omega)]
      congr 3
      unfold encI
      rw [if_pos h1]
      simp
    · rw [if_neg h1]
      by_cases h2 : x.f0 = 2
      · rw [if_pos h2, if_pos (by simp; omega), Option.bind_some, if_pos (by simp [bytesOf_length]; omega), ih _ (by simp [bytesOf_length]; omega)]
        congr 3
        unfold encI
        rw [if_neg h1, if_pos h2]
        simp
      · rw [if_neg h2]
        by_cases h3 : x.f0 = 3
        · rw [if_pos h3]
          by_cases h4 : x.f3 = true
          · rw [if_pos h4, if_pos (by simp; omega), ih _ (by simp; omega)]
            congr 3
            unfold encI
            rw [if_neg h1, if_neg h2, if_pos h3, if_pos h4]
            simp
          · rw [if_neg h4, if_pos (by simp; omega), ih _ (by simp; omega)]
            congr 3
            unfold encI
            rw [if_neg h1, if_neg h2, if_pos h3, if_neg h4]
            simp
        · rw [if_neg h3, ih _ (by simp; omega)]
          congr 3
          unfold encI
          rw [if_neg h1, if_neg h2, if_neg h3]
          simp
/-- The first value that may not be. -/
def firstBad : List S36 → Option Int
  | [] => none
  | x :: l => if valid x = none then firstBad l else valid x
theorem firstBad_pos {x : S36} {l : List S36} (h : valid x = none) : firstBad (x :: l) = firstBad l := by
  unfold firstBad
  rw [if_pos h]
  cases l <;> rfl
theorem firstBad_neg {x : S36} {l : List S36} {c : Int} (h : valid x = some c) : firstBad (x :: l) = some c := by
  unfold firstBad
  rw [if_neg (by rw [h]; simp), h]
def encode (l : List S36) : ByteArray × Option Int :=
  if firstBad l = none then (if 16 < l.length then (⟨#[]⟩, some 2) else (strOfNums (encL l), none)) else (⟨#[]⟩, firstBad l)
theorem firstBad_ok (l : List S36) (h : firstBad l = none) : ∀ x ∈ l, valid x = none := by
  induction l with
  | nil => intro x hx; cases hx
  | cons y l ih =>
    unfold firstBad at h
    split at h
    · intro x hx
      rcases List.mem_cons.1 hx with rfl | hx
      · assumption
      · exact ih h x hx
    · exact absurd h (by assumption)
theorem enc_l0 (l : List S36) (hl : l.length < 4611686018427387904) (hr : ∀ x ∈ l, -9223372036854775808 ≤ x.f1 ∧ x.f1 ≤ 9223372036854775807) (hg : firstBad l = none → 16 < l.length ∨ ∀ x ∈ l, Ok x) :
    ∀ (d i k : Nat), i + d = l.length → d + 60 ≤ k → (∀ j (hj : j < l.length), j < i → valid l[j] = none) → order_Encode.l0 k l l (l.length : Int) (i : Int) = some (if firstBad (l.drop i) = none then (if 16 < l.length then (⟨#[]⟩, some 2) else (strOfNums (encL l), none)) else (⟨#[]⟩, firstBad (l.drop i)))
  | 0, i, k, hi, hk, hp => by
    obtain ⟨k, rfl⟩ : ∃ q, k = q + 1 := ⟨k - 1, by omega⟩
    simp only [order_Encode.l0]
    rw [if_neg (by omega), List.drop_eq_nil_of_le (by omega), show firstBad ([] : List S36) = none from rfl, if_pos (show (none : Option Int) = none from rfl)]
    by_cases h16 : 16 < l.length
    · rw [if_pos (by omega), if_pos h16]
    · rw [if_neg (by omega), if_neg h16]
      have hok : ∀ x ∈ l, Ok x := by
        intro x hx
        obtain ⟨j, hj, rfl⟩ := List.mem_iff_getElem.1 hx
        exact ⟨hp j hj (by omega), hr _ hx⟩
      have h := enc_l1 l (by omega) hok l.length 0 k [] (by omega) (by omega) (by simp)
      simpa using h
  | d + 1, i, k, hi, hk, hp => by
    obtain ⟨k, rfl⟩ : ∃ q, k = q + 1 := ⟨k - 1, by omega⟩
    have hil : i < l.length := by omega
    simp only [order_Encode.l0]
    rw [if_pos (by omega), if_pos (by omega), if_pos (by omega), rd_at l i hil, valid_f k (by omega), Option.bind_some, List.drop_eq_getElem_cons hil]
    by_cases hv : valid l[i] = none
    · rw [firstBad_pos hv, hv, if_pos (by rfl), show wrap64 ((i : Int) + 1) = ((i + 1 : Nat) : Int) by rw [w64 _ (by omega) (by omega)]; omega]
      refine enc_l0 l hl hr hg d (i + 1) k (by omega) (by omega) (fun j hj hji => ?_)
      by_cases h : j = i
      · subst h; exact hv
      · exact hp j hj (by omega)
    · obtain ⟨c, hc⟩ := Option.ne_none_iff_exists'.1 hv
      rw [firstBad_neg hc, hc, if_neg (by show ¬ (some c).isNone = true; simp), if_neg (show ¬ (some c = none) by simp)]
      rfl
theorem encode_f (k : Nat) (l : List S36) (hl : l.length < 4611686018427387904) (hr : ∀ x ∈ l, -9223372036854775808 ≤ x.f1 ∧ x.f1 ≤ 9223372036854775807) (hk : l.length + 60 ≤ k) : order_Encode.f k l = some (encode l) := by
  unfold order_Encode.f encode
  have h := enc_l0 l hl hr (fun h => .inr fun x hx => ⟨firstBad_ok l h x hx, hr x hx⟩) l.length 0 k (by omega) (by omega) (fun j hj h => by omega)
  simpa using h
/-- What a list that may be is told as. -/
theorem encode_ok {l : List S36} (h : (encode l).2 = none) : (∀ x ∈ l, valid x = none) ∧ l.length ≤ 16 ∧ encode l = (strOfNums (encL l), none) := by
  unfold encode at h ⊢
  by_cases h1 : firstBad l = none
  · rw [if_pos h1] at h ⊢
    by_cases h2 : 16 < l.length
    · rw [if_pos h2] at h; cases h
    · rw [if_neg h2]
      exact ⟨firstBad_ok l h1, by omega, rfl⟩
  · rw [if_neg h1] at h
    exact absurd h h1
theorem encode_of_ok {l : List S36} (h : ∀ x ∈ l, valid x = none) (h16 : l.length ≤ 16) : encode l = (strOfNums (encL l), none) := by
  have hb : firstBad l = none := by
    clear h16
    induction l with
    | nil => rfl
    | cons y l ih =>
      unfold firstBad
      rw [if_pos (h y (by simp))]
      exact ih (fun x hx => h x (by simp [hx]))
  unfold encode
  rw [if_pos hb, if_neg (by omega)]
end EncL
end Go.Proofs.Ytcchjnadhjeniaa.Pure
