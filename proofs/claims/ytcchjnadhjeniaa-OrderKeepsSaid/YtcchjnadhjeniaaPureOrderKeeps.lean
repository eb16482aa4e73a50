/- OrderKeeps: the texts of values that may be are ordered as the lists are, and read as them; a list's text begins with that of its begin. -/
import Derived.Test.YtcchjnadhjeniaaXAllx25
import Derived.Test.YtcchjnadhjeniaaDecL
import Derived.Test.YtcchjnadhjeniaaXSt36
namespace Go.Proofs.Ytcchjnadhjeniaa.Pure
open Go.RowKit Go.Proofs.Ytcchjnadhjeniaa.XAll Go.Proofs.YtcchjnadhjeniaaW.PrintWords Go.Proofs.YtcchjnadhjeniaaW.PrintLast Go.Proofs.YtcchjnadhjeniaaW.PrintMore
set_option linter.unusedVariables false
set_option linter.unusedSimpArgs false
open ValueL EncL
namespace KeepsL
theorem twin_f (l : List S36) (h : l.length < 3518437208883) : barbicanlaw06_twin.f l = some l := by
  unfold barbicanlaw06_twin.f
  rw [if_pos (by simpa using h)]
  rfl
theorem values_l0 (a : List S36) (ha : a.length < 4611686018427387904) : ∀ (d i k : Nat), i + d = a.length → d < k → barbicanlaw06_values.l0 k a a (i : Int) = some true
  | 0, i, k, hi, hk => by
    obtain ⟨k, rfl⟩ : ∃ q, k = q + 1 := ⟨k - 1, by omega⟩
    simp only [barbicanlaw06_values.l0]
    rw [if_neg (by omega)]
  | d + 1, i, k, hi, hk => by
    obtain ⟨k, rfl⟩ : ∃ q, k = q + 1 := ⟨k - 1, by omega⟩
    simp only [barbicanlaw06_values.l0]
    rw [if_pos (by omega), if_pos (by omega), if_pos (by omega), if_neg (by simp), show wrap64 ((i : Int) + 1) = ((i + 1 : Nat) : Int) by rw [w64 _ (by omega) (by omega)]; omega]
    exact values_l0 a ha d (i + 1) k (by omega) (by omega)
theorem values_f (k : Nat) (a : List S36) (ha : a.length < 4611686018427387904) (hk : a.length < k) : barbicanlaw06_values.f k a a = some true := by
  unfold barbicanlaw06_values.f
  rw [if_pos rfl]
  exact values_l0 a ha a.length 0 k (by omega) hk
theorem encL_take (a : List S36) (n : Nat) : ∃ r, encL a = encL (a.take n) ++ r := ⟨encL (a.drop n), by rw [← encL_append, List.take_append_drop]⟩
theorem end_f (k : Nat) (hk : 200 ≤ k) (a : List S36) (ha : ∀ x ∈ a, Ok x) (h16 : a.length ≤ 16) (x2 c : Int) (h2 : -9223372036854775808 ≤ x2 ∧ x2 ≤ 9223372036854775807) : barbicanlaw06_OrderKeeps.j5 k a x2 (strOfNums (encL a)) c c = some true := by
  obtain ⟨k, rfl⟩ : ∃ q, k = q + 1 := ⟨k - 1, by omega⟩
  have e1 : wrap64 ((a.length : Int) + 1) = (a.length : Int) + 1 := w64 _ (by omega) (by omega)
  have e2 : IntKind.u64.wrap ((a.length : Int) + 1) = (a.length : Int) + 1 := by simp [IntKind.wrap, IntKind.signed, IntKind.bits]; omega
  have hu : 0 ≤ IntKind.u64.wrap x2 := by simp [IntKind.wrap, IntKind.signed, IntKind.bits]; omega
  obtain ⟨m, hm⟩ : ∃ m : Nat, Int.tmod (IntKind.u64.wrap x2) ((a.length : Int) + 1) = (m : Int) ∧ m ≤ a.length := by
    rw [Int.tmod_eq_emod_of_nonneg hu]
    have h0 := Int.emod_nonneg (IntKind.u64.wrap x2) (show (a.length : Int) + 1 ≠ 0 by omega)
    have h1 := Int.emod_lt_of_pos (IntKind.u64.wrap x2) (show (0 : Int) < (a.length : Int) + 1 by omega)
    exact ⟨(IntKind.u64.wrap x2 % ((a.length : Int) + 1)).toNat, by omega, by omega⟩
  have hlt : (a.take m).length ≤ 16 := by rw [List.length_take]; omega
  have hot : ∀ x ∈ a.take m, Ok x := fun x hx => ha x (List.mem_of_mem_take hx)
  have hen := encode_f k (a.take m) (by omega) (fun x hx => (hot x hx).i) (by omega)
  rw [encode_of_ok (fun x hx => (hot x hx).v) hlt] at hen
  obtain ⟨r, hr⟩ := encL_take a m
  simp only [barbicanlaw06_OrderKeeps.j5]
  rw [e1, e2, hm.1, w64 _ (by omega) (by omega), decode_f k a ha h16 (by omega), Option.bind_some, if_neg (by omega), if_pos (by omega), if_pos (by omega), Int.toNat_natCast, twin_f _ (by omega), Option.bind_some, hen, Option.bind_some, if_pos trivial, if_pos (by rfl)]
  dsimp only
  rw [values_f k a (by omega) (by omega), Option.bind_some, if_pos rfl, if_pos (by rfl), son_size, son_size]
  have hlr : (encL a).length = (encL (a.take m)).length + r.length := by rw [hr, List.length_append]
  rw [if_pos (by omega), if_pos (by omega), Int.toNat_natCast, son_extract, List.drop_zero, Nat.sub_zero]
  have ht : (encL a).take (encL (a.take m)).length = encL (a.take m) := by
    conv => lhs; rw [hr]
    rw [List.take_left]
  rw [ht, if_pos rfl, sure06 k (by omega), Option.bind_some]
theorem j3_f (k : Nat) (hk : 210 ≤ k) (a b : List S36) (ha : ∀ x ∈ a, Ok x) (h16 : a.length ≤ 16) (x2 c w : Int) (h2 : -9223372036854775808 ≤ x2 ∧ x2 ≤ 9223372036854775807) (hw : (if w = 0 then (if a.length < b.length then -1 else if b.length < a.length then 1 else 0) else w) = c) : barbicanlaw06_OrderKeeps.j3 k a b x2 (strOfNums (encL a)) c w = some true := by
  obtain ⟨k, rfl⟩ : ∃ q, k = q + 2 := ⟨k - 2, by omega⟩
  simp only [barbicanlaw06_OrderKeeps.j3]
  by_cases h0 : w = 0
  · subst h0
    rw [if_pos rfl] at hw ⊢
    simp only [barbicanlaw06_OrderKeeps.j4]
    by_cases h1 : a.length < b.length
    · rw [if_pos h1] at hw
      subst hw
      rw [if_pos (by simp; omega), if_pos (by omega)]
      exact end_f k (by omega) a ha h16 x2 _ h2
    · rw [if_neg h1] at hw
      by_cases h3 : b.length < a.length
      · rw [if_pos h3] at hw
        subst hw
        rw [if_pos (by simp; omega), if_neg (by omega)]
        exact end_f k (by omega) a ha h16 x2 _ h2
      · rw [if_neg h3] at hw
        subst hw
        rw [if_neg (by simp; omega)]
        exact end_f k (by omega) a ha h16 x2 _ h2
  · rw [if_neg h0] at hw ⊢
    subst hw
    simp only [barbicanlaw06_OrderKeeps.j4]
    rw [if_neg (by simp)]
    exact end_f k (by omega) a ha h16 x2 _ h2
theorem loop_f (a b : List S36) (ha : ∀ x ∈ a, Ok x) (h16 : a.length ≤ 16) (h16b : b.length ≤ 16) (x2 c : Int) (h2 : -9223372036854775808 ≤ x2 ∧ x2 ≤ 9223372036854775807) :
    ∀ (d i k : Nat) (w : Int), i + d = a.length → i ≤ b.length → d + 220 ≤ k → (if w = 0 then lcmp (a.drop i) (b.drop i) else w) = c → barbicanlaw06_OrderKeeps.l0 k a b x2 (strOfNums (encL a)) c w (i : Int) = some true
  | 0, i, k, w, hi, hib, hk, hc => by
    obtain ⟨k, rfl⟩ : ∃ q, k = q + 1 := ⟨k - 1, by omega⟩
    simp only [barbicanlaw06_OrderKeeps.l0]
    rw [if_neg (by omega)]
    refine j3_f k (by omega) a b ha h16 x2 c w h2 ?_
    rw [← hc]
    by_cases h0 : w = 0
    · rw [if_pos h0, if_pos h0, List.drop_eq_nil_of_le (show a.length ≤ i by omega), lcmp_nil _ _ (.inl rfl), List.length_drop, List.length_nil]
      by_cases h : a.length < b.length
      · rw [if_pos h, if_pos (by omega)]
      · rw [if_neg h, if_neg (by omega), if_neg (by omega), if_neg (by omega)]
    · rw [if_neg h0, if_neg h0]
  | d + 1, i, k, w, hi, hib, hk, hc => by
    obtain ⟨k, rfl⟩ : ∃ q, k = q + 1 := ⟨k - 1, by omega⟩
    simp only [barbicanlaw06_OrderKeeps.l0]
    have hia : i < a.length := by omega
    rw [if_pos (by omega)]
    by_cases hb : i < b.length
    · rw [if_pos (by omega)]
      by_cases h0 : w = 0
      · rw [if_pos h0] at hc
        rw [if_pos h0, if_pos (by omega), rd_at a i hia, rd_at b i hb, value_f, Option.bind_some, show wrap64 ((i : Int) + 1) = ((i + 1 : Nat) : Int) by rw [w64 _ (by omega) (by omega)]; omega]
        refine loop_f a b ha h16 h16b x2 c h2 d (i + 1) k _ (by omega) (by omega) (by omega) ?_
        rw [← hc, List.drop_eq_getElem_cons hia, List.drop_eq_getElem_cons hb]
        simp only [lcmp]
      · rw [if_neg h0] at hc
        rw [if_neg h0]
        exact j3_f k (by omega) a b ha h16 x2 c w h2 (by rw [if_neg h0]; exact hc)
    · rw [if_neg (by omega)]
      refine j3_f k (by omega) a b ha h16 x2 c w h2 ?_
      rw [← hc]
      by_cases h0 : w = 0
      · rw [if_pos h0, if_pos h0, List.drop_eq_nil_of_le (show b.length ≤ i by omega), lcmp_nil _ _ (.inr rfl), List.length_drop, List.length_nil, if_neg (by omega), if_pos (by omega), if_neg (by omega), if_pos (by omega)]
      · rw [if_neg h0, if_neg h0]
end KeepsL
open KeepsL
theorem OrderKeeps (l0 : List (S36)) (l1 : List (S36)) (a2 : Int) (g0 : (fun xs : List (S36) => xs.length ≤ maxLen ∧ ∀ x ∈ xs, good36 x) l0) (b0 : l0.length * 40 ≤ 140737488351232) (g1 : (fun xs : List (S36) => xs.length ≤ maxLen ∧ ∀ x ∈ xs, good36 x) l1) (b1 : l1.length * 40 ≤ 140737488351232) (g2 : (fun n : Int => (Lit.int .i64 n).wf = true) a2) : ∃ k, barbicanlaw06_OrderKeeps.f k l0 l1 a2 = some true := by
  obtain ⟨k, hk⟩ : ∃ k : Nat, l0.length + l1.length + 1000 ≤ k := ⟨_, Nat.le_refl _⟩
  refine ⟨k, ?_⟩
  have wf : ∀ n : Int, (Lit.int .i64 n).wf = true → -9223372036854775808 ≤ n ∧ n ≤ 9223372036854775807 := by
    intro n h
    simp [Lit.wf, IntKind.min, IntKind.max, IntKind.signed, IntKind.bits] at h
    omega
  have r0 : ∀ x ∈ l0, -9223372036854775808 ≤ x.f1 ∧ x.f1 ≤ 9223372036854775807 := fun x hx => wf _ (g0.2 x hx).2.1
  have r1 : ∀ x ∈ l1, -9223372036854775808 ≤ x.f1 ∧ x.f1 ≤ 9223372036854775807 := fun x hx => wf _ (g1.2 x hx).2.1
  have e0 := encode_f k l0 (by omega) r0 (by omega)
  have e1 := encode_f k l1 (by omega) r1 (by omega)
  have hbad : ∀ x7 x9, barbicanlaw06_OrderKeeps.j0 k l0 l1 a2 x7 x9 true = some true := by
    intro x7 x9
    obtain ⟨q, rfl⟩ : ∃ q, k = q + 1 := ⟨k - 1, by omega⟩
    simp only [barbicanlaw06_OrderKeeps.j0]
    rw [if_pos trivial, sure06 q (by omega), Option.bind_some]
  unfold barbicanlaw06_OrderKeeps.f
  rw [twin_f _ (by omega), Option.bind_some, e0, Option.bind_some, twin_f _ (by omega), Option.bind_some, e1, Option.bind_some]
  cases h0 : (encode l0).2 with
  | some c => rw [if_neg (by simp)]; exact hbad _ _
  | none =>
    rw [if_pos (by rfl)]
    cases h1 : (encode l1).2 with
    | some c => rw [if_neg (by simp)]; exact hbad _ _
    | none =>
      rw [if_pos (by rfl)]
      obtain ⟨v0, s0, en0⟩ := encode_ok h0
      obtain ⟨v1, s1, en1⟩ := encode_ok h1
      have o0 : ∀ x ∈ l0, Ok x := fun x hx => ⟨v0 x hx, r0 x hx⟩
      have o1 : ∀ x ∈ l1, Ok x := fun x hx => ⟨v1 x hx, r1 x hx⟩
      rw [en0, en1]
      dsimp only
      have hl := lists_less l0 l1 o0 o1
      have hb0 : ∀ x y : List Int, Byt x → Byt y → Op.bytesLess (strOfNums x).toList (strOfNums y).toList = iless x y := by
        intro x y hx hy
        rw [son_toList, son_toList, less_son x y hx hy]
      obtain ⟨q, rfl⟩ : ∃ q, k = q + 2 := ⟨k - 2, by omega⟩
      have hloop := fun c (hc : lcmp l0 l1 = c) => loop_f l0 l1 o0 s0 s1 a2 c (wf a2 g2) l0.length 0 q 0 (by omega) (by omega) (by omega) (by rw [if_pos rfl]; exact hc)
      simp only [barbicanlaw06_OrderKeeps.j0]
      rw [if_neg (by simp), hb0 _ _ (encL_byt l0) (encL_byt l1), hb0 _ _ (encL_byt l1) (encL_byt l0)]
      simp only [barbicanlaw06_OrderKeeps.j1]
      by_cases c1 : iless (encL l0) (encL l1) = true
      · rw [if_pos c1]
        refine hloop (-1) ?_
        rw [← hl, c1]
        rfl
      · rw [if_neg c1]
        by_cases c2 : iless (encL l1) (encL l0) = true
        · rw [if_pos c2]
          refine hloop 1 ?_
          rw [← hl, c2, show iless (encL l0) (encL l1) = false by simpa using c1]
          rfl
        · rw [if_neg c2]
          refine hloop 0 ?_
          rw [← hl, show iless (encL l1) (encL l0) = false by simpa using c2, show iless (encL l0) (encL l1) = false by simpa using c1]
          rfl
end Go.Proofs.Ytcchjnadhjeniaa.Pure
