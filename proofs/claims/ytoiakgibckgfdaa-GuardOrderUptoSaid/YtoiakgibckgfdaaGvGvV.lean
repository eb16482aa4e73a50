/- Values, plain: which may be, in the program's words. -/
import Derived.Test.YtoiakgibckgfdaaXGvx2
import Derived.Lib.Strings
import Derived.Laws.BytesArg
import Derived.Laws.RangeString
namespace Go.Proofs.Ytoiakgibckgfdaa.Pure
open Go.RowKit Go.Proofs.Ytoiakgibckgfdaa.XGv Go.Proofs.YtoiakgibckgfdaaW.PrintWords Go.Proofs.YtoiakgibckgfdaaW.PrintLast Go.Proofs.YtoiakgibckgfdaaW.PrintMore
set_option linter.unusedVariables false
set_option linter.unusedSimpArgs false
namespace GbV
theorem w64 (n : Int) (h0 : -9223372036854775808 ≤ n) (h1 : n ≤ 9223372036854775807) : wrap64 n = n := by
  simp [wrap64, IntKind.wrap]
  omega
/-- The fields that a kind leaves unused are nought. -/
def shape (x : S47) : Bool :=
  (x.f0 == 0 && x.f1 == 0 && x.f2.toList == [] && !x.f3) || (x.f0 == 1 && x.f2.toList == [] && !x.f3) || (x.f0 == 2 && x.f1 == 0 && !x.f3) || (x.f0 == 3 && x.f1 == 0 && x.f2.toList == [])
def tailv (s : ByteArray) : Option Int := if 4096 < s.size then some 2 else if 0 ≤ Lib.idxFunc notPrinted true s then some 3 else none
def valid (x : S47) : Option Int := if shape x = true then tailv x.f2 else some 3
theorem j1_f (k : Nat) (b : Bool) (a0 a1 : Int) (s : ByteArray) (a3 : Bool) : value_Valid.j1 (k + 1) b a0 a1 s a3 = some (if b = true then some 3 else tailv s) := by
  simp only [value_Valid.j1, strings_IndexFunc.f, tailv]
  cases b with
  | true => rfl
  | false =>
    rw [if_neg (show ¬ (false = true) by decide), if_neg (show ¬ (false = true) by decide)]
    by_cases h : 4096 < s.size
    · rw [if_pos (by omega), if_pos h]
    · rw [if_neg (by omega), if_neg h, if_pos trivial, Option.bind_some]
      by_cases h2 : 0 ≤ Lib.idxFunc notPrinted true s
      · rw [if_pos (by omega), if_pos h2]
      · rw [if_neg (by omega), if_neg h2]
theorem valid_f (k : Nat) (hk : 3 ≤ k) (x : S47) : value_Valid.f k x.f0 x.f1 x.f2 x.f3 = some (valid x) := by
  obtain ⟨k, rfl⟩ : ∃ q, k = q + 3 := ⟨k - 3, by omega⟩
  obtain ⟨a, b, s, t⟩ := x
  unfold value_Valid.f valid shape
  dsimp only
  have e1 : ([78, 85, 76, 76] : List UInt8) ≠ [] := by simp
  by_cases h1 : a = 1
  · subst h1
    rw [if_pos rfl]
    simp only [value_Valid.j0, value_Kind.f, Lib.toList_data]
    simp only [Int.one_ne_zero, if_false, if_true, Option.bind_some, List.cons_ne_nil, j1_f, reduceCtorEq]
    cases hs : (s.data.toList == []) <;> cases t <;> simp [hs]
  · rw [if_neg h1]
    by_cases h2 : a = 2
    · subst h2
      rw [if_pos rfl]
      simp only [value_Valid.j0, value_Kind.f, Lib.toList_data]
      cases hb : (b == 0) <;> cases t <;> simp [hb, j1_f]
    · rw [if_neg h2]
      by_cases h3 : a = 3
      · subst h3
        rw [if_pos rfl]
        simp only [value_Valid.j0, value_Kind.f, Lib.toList_data]
        cases hb : (b == 0) <;> cases hs : (s.data.toList == []) <;> simp [hb, hs, j1_f]
      · rw [if_neg h3]
        simp only [value_Valid.j0, value_Kind.f, Lib.toList_data]
        by_cases h0 : a = 0
        · subst h0
          cases hb : (b == 0) <;> cases hs : (s.data.toList == []) <;> cases t <;> simp [hb, hs, j1_f]
        · have g0 : (a == 0) = false := beq_eq_false_iff_ne.mpr h0
          have g1 : (a == 1) = false := beq_eq_false_iff_ne.mpr h1
          have g2 : (a == 2) = false := beq_eq_false_iff_ne.mpr h2
          have g3 : (a == 3) = false := beq_eq_false_iff_ne.mpr h3
          simp [h0, h1, h2, h3, g0, g1, g2, g3, j1_f]
theorem decode_hi (s : ByteArray) (pos : Nat) (h : pos < s.size) (hb : 128 ≤ (s[pos]'h).toNat) : 128 ≤ (Utf8.decode s pos).1 := by
  have e : s.get! (pos + 0) = s[pos]'h := by
    rw [Nat.add_zero]
    show s.data[pos]! = s.data[pos]
    exact getElem!_pos s.data pos h
  unfold Utf8.decode
  simp only [e]
  rw [if_neg (by omega)]
  repeat' split
  all_goals simp only [Utf8.runeError]
  all_goals first
    | omega
    | (rename_i hc; simp only [Bool.and_eq_true, decide_eq_true_eq, ge_iff_le] at hc; omega)
theorem printed_from (s : ByteArray) : ∀ (f pos : Nat), s.size ≤ pos + f → ¬ 0 ≤ Lib.idxFuncFrom notPrinted true s f pos → ∀ j, pos ≤ j → ∀ hj : j < s.size, 32 ≤ (s[j]'hj).toNat ∧ (s[j]'hj).toNat ≤ 126
  | 0, pos, hs, h, j, hp, hj => by omega
  | f + 1, pos, hs, h, j, hp, hj => by
    have hlt : pos < s.size := by omega
    unfold Lib.idxFuncFrom at h
    rw [if_pos hlt] at h
    by_cases hn : notPrinted (Utf8.decode s pos).1 = true
    · rw [if_pos hn] at h
      omega
    · rw [if_neg hn] at h
      have hn2 : 32 ≤ (Utf8.decode s pos).1 ∧ (Utf8.decode s pos).1 ≤ 126 := by
        unfold notPrinted at hn
        simp only [Bool.or_eq_true, decide_eq_true_eq, not_or] at hn
        omega
      by_cases hb : (s[pos]'hlt).toNat < 128
      · have hd := decode_ascii s pos hlt hb
        rw [hd] at h hn2
        by_cases hjp : j = pos
        · subst hjp
          exact hn2
        · exact printed_from s f (pos + 1) (by omega) h j (by omega) hj
      · have := decode_hi s pos hlt (by omega)
        omega
/-! #### printed texts -/
def allP (s : ByteArray) : Prop := ∀ b ∈ s.data.toList, 32 ≤ b.toNat ∧ b.toNat ≤ 126
theorem at_list (s : ByteArray) (j : Nat) (h : j < s.size) : s[j]'h ∈ s.data.toList := by
  have e : s[j]'h = s.data.toList[j]'(by simpa using h) := by simp only [Array.getElem_toList]; rfl
  rw [e]
  exact List.getElem_mem _
theorem idx_printed (s : ByteArray) (h : allP s) : ∀ f pos : Nat, Lib.idxFuncFrom notPrinted true s f pos = -1
  | 0, pos => rfl
  | f + 1, pos => by
    unfold Lib.idxFuncFrom
    by_cases hlt : pos < s.size
    · have hp := h _ (at_list s pos hlt)
      rw [if_pos hlt, decode_ascii s pos hlt (by omega)]
      dsimp only
      rw [if_neg (by unfold notPrinted; simp; omega)]
      exact idx_printed s h f (pos + 1)
    · rw [if_neg hlt]
theorem idx_neg (s : ByteArray) : ¬ 0 ≤ Lib.idxFunc notPrinted true s ↔ allP s := by
  constructor
  · intro hi b hb
    obtain ⟨j, hj, rfl⟩ := List.mem_iff_getElem.1 hb
    have hj' : j < s.size := by simpa using hj
    have := printed_from s s.size 0 (by omega) hi j (by omega) hj'
    have e : s.data.toList[j] = s[j]'hj' := by simp only [Array.getElem_toList]; rfl
    rw [e]
    exact this
  · intro h
    unfold Lib.idxFunc
    rw [idx_printed s h]
    omega
/-- A value that may be. -/
def okS (x : S47) : Prop := shape x = true ∧ x.f2.size ≤ 4096 ∧ allP x.f2
theorem valid_ok (x : S47) : valid x = none ↔ okS x := by
  unfold valid tailv okS
  by_cases h1 : shape x = true
  · rw [if_pos h1]
    by_cases h2 : 4096 < x.f2.size
    · rw [if_pos h2]
      constructor
      · intro h; cases h
      · rintro ⟨_, h, _⟩; omega
    · rw [if_neg h2]
      by_cases h3 : 0 ≤ Lib.idxFunc notPrinted true x.f2
      · rw [if_pos h3]
        constructor
        · intro h; cases h
        · rintro ⟨_, _, h⟩; exact absurd h3 ((idx_neg _).2 h)
      · rw [if_neg h3]
        exact ⟨fun _ => ⟨h1, by omega, (idx_neg _).1 h3⟩, fun _ => rfl⟩
  · rw [if_neg h1]
    constructor
    · intro h; cases h
    · rintro ⟨h, _⟩; exact absurd h h1
theorem nil_of {s : ByteArray} (h : s.toList = []) : s = ⟨#[]⟩ := by
  apply ByteArray.ext
  apply Array.toList_inj.1
  rw [Lib.toList_data] at h
  exact h
theorem shape_cases {x : S47} (h : shape x = true) : (x.f0 = 0 ∧ x.f1 = 0 ∧ x.f2 = ⟨#[]⟩ ∧ x.f3 = false) ∨ (x.f0 = 1 ∧ x.f2 = ⟨#[]⟩ ∧ x.f3 = false) ∨ (x.f0 = 2 ∧ x.f1 = 0 ∧ x.f3 = false) ∨ (x.f0 = 3 ∧ x.f1 = 0 ∧ x.f2 = ⟨#[]⟩) := by
  unfold shape at h
  simp only [Bool.or_eq_true, Bool.and_eq_true, beq_iff_eq, Bool.not_eq_true'] at h
  rcases h with ((⟨⟨⟨h1, h2⟩, h3⟩, h4⟩ | ⟨⟨h1, h2⟩, h3⟩) | ⟨⟨h1, h2⟩, h3⟩) | ⟨⟨h1, h2⟩, h3⟩
  · exact .inl ⟨h1, h2, nil_of h3, h4⟩
  · exact .inr (.inl ⟨h1, nil_of h2, h3⟩)
  · exact .inr (.inr (.inl ⟨h1, h2, h3⟩))
  · exact .inr (.inr (.inr ⟨h1, h2, nil_of h3⟩))
theorem allP_nil : allP (⟨#[]⟩ : ByteArray) := by intro b hb; cases hb
theorem ok_null : okS ⟨0, 0, ⟨#[]⟩, false⟩ := ⟨by decide +kernel, by decide, allP_nil⟩
theorem ok_int (n : Int) : okS ⟨1, n, ⟨#[]⟩, false⟩ := ⟨by unfold shape; simp [Lib.toList_data], Nat.zero_le _, allP_nil⟩
theorem ok_text {s : ByteArray} (h1 : s.size ≤ 4096) (h2 : allP s) : okS ⟨2, 0, s, false⟩ := ⟨by unfold shape; simp, h1, h2⟩
end GbV
end Go.Proofs.Ytoiakgibckgfdaa.Pure
