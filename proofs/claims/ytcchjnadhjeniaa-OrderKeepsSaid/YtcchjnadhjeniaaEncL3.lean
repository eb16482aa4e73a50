/- The texts of values are ordered as the values are. -/
import Derived.Test.YtcchjnadhjeniaaEncL2
namespace Go.Proofs.Ytcchjnadhjeniaa.Pure
open Go.RowKit Go.Proofs.Ytcchjnadhjeniaa.XAll Go.Proofs.YtcchjnadhjeniaaW.PrintWords Go.Proofs.YtcchjnadhjeniaaW.PrintLast Go.Proofs.YtcchjnadhjeniaaW.PrintMore
set_option linter.unusedVariables false
set_option linter.unusedSimpArgs false
open ValueL
namespace EncL
theorem shape_cases {x : S36} (h : shape x = true) : (x.f0 = 0 ∧ x.f1 = 0 ∧ x.f2 = ⟨#[]⟩ ∧ x.f3 = false) ∨ (x.f0 = 1 ∧ x.f2 = ⟨#[]⟩ ∧ x.f3 = false) ∨ (x.f0 = 2 ∧ x.f1 = 0 ∧ x.f3 = false) ∨ (x.f0 = 3 ∧ x.f1 = 0 ∧ x.f2 = ⟨#[]⟩) := by
  have he : ∀ s : ByteArray, s.toList = [] → s = ⟨#[]⟩ := by
    intro s hs
    apply ByteArray.ext
    apply Array.toList_inj.1
    rw [Lib.toList_data] at hs
    exact hs
  unfold shape at h
  simp only [Bool.or_eq_true, Bool.and_eq_true, beq_iff_eq, Bool.not_eq_true'] at h
  rcases h with ((⟨⟨⟨h1, h2⟩, h3⟩, h4⟩ | ⟨⟨h1, h2⟩, h3⟩) | ⟨⟨h1, h2⟩, h3⟩) | ⟨⟨h1, h2⟩, h3⟩
  · exact .inl ⟨h1, h2, he _ h3, h4⟩
  · exact .inr (.inl ⟨h1, he _ h2, h3⟩)
  · exact .inr (.inr (.inl ⟨h1, h2, h3⟩))
  · exact .inr (.inr (.inr ⟨h1, h2, he _ h3⟩))
theorem decode_hi (s : ByteArray) (pos : Nat) (h : pos < s.size) (hb : 128 ≤ (s[pos]'h).toNat) : 128 ≤ (Utf8.decode s pos).1 := by
  have e : s.get! (pos + 0) = s[pos]'h := by
    rw [Nat.add_zero]
    show s.data[pos]! = s.data[pos]
    exact getElem!_pos s.data pos h
  unfold Utf8.decode
  simp only [e]
  rw [if_neg (by omega)]
  repeat' split
  all_goals simp only [Utf8.runeError]
  all_goals first
    | omega
    | (rename_i hc; simp only [Bool.and_eq_true, decide_eq_true_eq, ge_iff_le] at hc; omega)
theorem printed_from (s : ByteArray) : ∀ (f pos : Nat), s.size ≤ pos + f → ¬ 0 ≤ Lib.idxFuncFrom notPrinted true s f pos → ∀ j, pos ≤ j → ∀ hj : j < s.size, 32 ≤ (s[j]'hj).toNat ∧ (s[j]'hj).toNat ≤ 126
  | 0, pos, hs, h, j, hp, hj => by omega
  | f + 1, pos, hs, h, j, hp, hj => by
    have hlt : pos < s.size := by omega
    unfold Lib.idxFuncFrom at h
    rw [if_pos hlt] at h
    by_cases hn : notPrinted (Utf8.decode s pos).1 = true
    · rw [if_pos hn] at h
      omega
    · rw [if_neg hn] at h
      have hn2 : 32 ≤ (Utf8.decode s pos).1 ∧ (Utf8.decode s pos).1 ≤ 126 := by
        unfold notPrinted at hn
        simp only [Bool.or_eq_true, decide_eq_true_eq, not_or] at hn
        omega
      by_cases hb : (s[pos]'hlt).toNat < 128
      · have hd := decode_ascii s pos hlt hb
        rw [hd] at h hn2
        by_cases hjp : j = pos
        · subst hjp
          exact hn2
        · exact printed_from s f (pos + 1) (by omega) h j (by omega) hj
      · have := decode_hi s pos hlt (by omega)
        omega
theorem Ok.printed {x : S36} (h : Ok x) : ∀ c ∈ bytesOf x.f2, 32 ≤ c ∧ c ≤ 126 := by
  have hv := h.v
  have hs := h.shape
  have hz := h.size
  unfold valid tailv at hv
  rw [if_pos hs, if_neg (by omega)] at hv
  have hi : ¬ 0 ≤ Lib.idxFunc notPrinted true x.f2 := by
    intro hi
    rw [if_pos hi] at hv
    cases hv
  intro c hc
  unfold bytesOf at hc
  obtain ⟨b, hb, rfl⟩ := List.mem_map.1 hc
  obtain ⟨j, hj, rfl⟩ := List.mem_iff_getElem.1 hb
  have hj' : j < x.f2.size := by simpa using hj
  have := printed_from x.f2 x.f2.size 0 (by omega) hi j (by omega) hj'
  have e : x.f2.data.toList[j] = x.f2[j]'hj' := by simp only [Array.getElem_toList]; rfl
  rw [e]
  omega
theorem iless_self : ∀ l, iless l l = false
  | [] => rfl
  | a :: l => by
    simp only [iless, iless_self l]
    simp
theorem iless_ne : ∀ l m, l ≠ m → iless m l = !iless l m
  | [], [] => fun h => absurd rfl h
  | [], _ :: _ => fun _ => rfl
  | _ :: _, [] => fun _ => rfl
  | a :: l, b :: m => fun h => by
    simp only [iless]
    rcases Int.lt_trichotomy a b with h1 | h1 | h1
    · rw [show decide (a < b) = true from decide_eq_true h1, show decide (b < a) = false from decide_eq_false (by omega), show (b == a) = false from beq_eq_false_iff_ne.mpr (by omega)]
      rfl
    · subst h1
      have hlm : l ≠ m := fun e => h (by rw [e])
      rw [show decide (a < a) = false from decide_eq_false (by omega), show (a == a) = true from beq_iff_eq.mpr rfl, iless_ne l m hlm]
      simp
    · rw [show decide (a < b) = false from decide_eq_false (by omega), show decide (b < a) = true from decide_eq_true h1, show (a == b) = false from beq_eq_false_iff_ne.mpr (by omega)]
      rfl
theorem txt_less (p q : List Int) : ∀ s t : List Int, (∀ c ∈ s, 0 < c) → (∀ c ∈ t, 0 < c) → iless (s ++ 0 :: p) (t ++ 0 :: q) = if s = t then iless p q else iless s t
  | [], [] => fun _ _ => by simp [iless]
  | [], b :: t => fun _ ht => by
    have := ht b (by simp)
    rw [if_neg (by simp)]
    simp only [List.nil_append, List.cons_append, iless]
    rw [show decide ((0 : Int) < b) = true from decide_eq_true this]
    rfl
  | a :: s, [] => fun hs _ => by
    have := hs a (by simp)
    rw [if_neg (by simp)]
    simp only [List.nil_append, List.cons_append, iless]
    rw [show decide (a < 0) = false from decide_eq_false (by omega), show (a == 0) = false from beq_eq_false_iff_ne.mpr (by omega)]
    rfl
  | a :: s, b :: t => fun hs ht => by
    have ih := txt_less p q s t (fun c hc => hs c (by simp [hc])) (fun c hc => ht c (by simp [hc]))
    simp only [List.cons_append, iless, ih]
    by_cases h : a = b
    · subst h
      by_cases h2 : s = t
      · subst h2
        simp
      · rw [if_neg h2, if_neg (by intro e; exact h2 (by injection e))]
    · rw [show (a == b) = false from beq_eq_false_iff_ne.mpr h, Bool.false_and, Bool.or_false, if_neg (show ¬ (a :: s = b :: t) from fun e => h (List.cons.inj e).1)]
      simp
theorem sgn_iff (a b : Bool) (h : a = true → b = false) : (sgn a b = 0 ↔ a = false ∧ b = false) ∧ (sgn a b = -1 ↔ a = true) := by
  cases a <;> cases b <;> simp_all [sgn]
theorem str_less (s t : ByteArray) : Op.bytesLess s.toList t.toList = iless (bytesOf s) (bytesOf t) := by
  rw [← less_son _ _ (bytesOf_byt s) (bytesOf_byt t), ← son_toList, ← son_toList, son_bytesOf, son_bytesOf]
theorem up_lt (n : Int) (h : -9223372036854775808 ≤ n ∧ n ≤ 9223372036854775807) : up n < 18446744073709551616 := by unfold up; omega
theorem enc_less (x y : S36) (hx : Ok x) (hy : Ok y) (p q : List Int) : iless (encI x ++ p) (encI y ++ q) = if vcmp x y = 0 then iless p q else decide (vcmp x y = -1) := by
  have kx := shape_cases hx.shape
  have ky := shape_cases hy.shape
  by_cases h0 : x.f0 = y.f0
  · have hv : vcmp x y = (if x.f0 = 1 then sgn (decide (x.f1 < y.f1)) (decide (y.f1 < x.f1)) else if x.f0 = 2 then sgn (Op.bytesLess x.f2.toList y.f2.toList) (Op.bytesLess y.f2.toList x.f2.toList) else if x.f0 = 3 then sgn (!x.f3 && y.f3) (x.f3 && !y.f3) else 0) := by
      unfold vcmp
      rw [if_pos h0]
    rw [hv]
    unfold encI
    rw [← h0, List.cons_append, List.cons_append]
    simp only [iless]
    rw [show decide ((x.f0 + 1) % 256 < (x.f0 + 1) % 256) = false from decide_eq_false (by omega), show ((x.f0 + 1) % 256 == (x.f0 + 1) % 256) = true from beq_iff_eq.mpr rfl, Bool.false_or, Bool.true_and]
    by_cases h1 : x.f0 = 1
    · rw [if_pos h1, if_pos h1, if_pos h1, be_less]
      have e : (256 : Nat) ^ 8 = 18446744073709551616 := by decide
      have a1 := up_lt x.f1 hx.i
      have a2 := up_lt y.f1 hy.i
      have b1 := hx.i
      have b2 := hy.i
      rw [e, Nat.mod_eq_of_lt a1, Nat.mod_eq_of_lt a2]
      have hs := sgn_iff (decide (x.f1 < y.f1)) (decide (y.f1 < x.f1)) (fun h => by simp at h ⊢; omega)
      have e1 : up x.f1 = up y.f1 ↔ x.f1 = y.f1 := by unfold up; omega
      have e2 : up x.f1 < up y.f1 ↔ x.f1 < y.f1 := by unfold up; omega
      by_cases h2 : x.f1 = y.f1
      · rw [if_pos (e1.2 h2), if_pos (hs.1.2 ⟨decide_eq_false (by omega), decide_eq_false (by omega)⟩)]
      · rw [if_neg (fun h => h2 (e1.1 h)), if_neg (fun h => h2 (by have := hs.1.1 h; simp at this; omega)), decide_eq_decide, hs.2, e2, decide_eq_true_iff]
    · rw [if_neg h1, if_neg h1, if_neg h1]
      by_cases h2 : x.f0 = 2
      · rw [if_pos h2, if_pos h2, if_pos h2, List.append_assoc, List.append_assoc, List.singleton_append, List.singleton_append, txt_less p q _ _ (fun c hc => by have := hx.printed c hc; omega) (fun c hc => by have := hy.printed c hc; omega), str_less, str_less]
        by_cases h3 : bytesOf x.f2 = bytesOf y.f2
        · rw [if_pos h3, h3, iless_self]
          simp [sgn]
        · have hn := iless_ne _ _ h3
          rw [if_neg h3, hn]
          cases iless (bytesOf x.f2) (bytesOf y.f2) <;> simp [sgn]
      · rw [if_neg h2, if_neg h2, if_neg h2]
        by_cases h3 : x.f0 = 3
        · rw [if_pos h3, if_pos h3, if_pos h3]
          simp only [List.singleton_append, iless]
          cases x.f3 <;> cases y.f3 <;> simp [sgn]
        · rw [if_neg h3, if_neg h3, if_neg h3]
          simp
  · have hv : vcmp x y = sgn (decide (x.f0 < y.f0)) (decide (y.f0 < x.f0)) := by
      unfold vcmp
      rw [if_neg h0]
    have rx : 0 ≤ x.f0 ∧ x.f0 ≤ 3 := by rcases kx with h | h | h | h <;> omega
    have ry : 0 ≤ y.f0 ∧ y.f0 ≤ 3 := by rcases ky with h | h | h | h <;> omega
    have hs := sgn_iff (decide (x.f0 < y.f0)) (decide (y.f0 < x.f0)) (fun h => by simp at h ⊢; omega)
    rw [hv, if_neg (fun h => h0 (by have := hs.1.1 h; simp at this; omega))]
    unfold encI
    rw [List.cons_append, List.cons_append]
    simp only [iless]
    rw [show ((x.f0 + 1) % 256 == (y.f0 + 1) % 256) = false from beq_eq_false_iff_ne.mpr (by omega), Bool.false_and, Bool.or_false, decide_eq_decide, hs.2, decide_eq_true_iff]
    omega
theorem vcmp_tri (x y : S36) : vcmp x y = -1 ∨ vcmp x y = 0 ∨ vcmp x y = 1 := by
  have h : ∀ a b, sgn a b = -1 ∨ sgn a b = 0 ∨ sgn a b = 1 := by intro a b; cases a <;> cases b <;> simp [sgn]
  unfold vcmp
  repeat' split
  all_goals first
    | exact h _ _
    | simp
theorem vcmp_back (x y : S36) : vcmp y x = -vcmp x y := by
  have h : ∀ a b : Bool, (a = true → b = false) → sgn b a = -sgn a b := by intro a b; cases a <;> cases b <;> simp [sgn]
  have hl : ∀ a b : Int, sgn (decide (b < a)) (decide (a < b)) = -sgn (decide (a < b)) (decide (b < a)) := fun a b => h _ _ (fun h => by simp at h ⊢; omega)
  unfold vcmp
  by_cases h0 : x.f0 = y.f0
  · rw [if_pos h0, if_pos h0.symm, ← h0]
    by_cases h1 : x.f0 = 1
    · rw [if_pos h1, if_pos h1, hl]
    · rw [if_neg h1, if_neg h1]
      by_cases h2 : x.f0 = 2
      · rw [if_pos h2, if_pos h2]
        apply h
        rw [str_less, str_less]
        by_cases h3 : bytesOf x.f2 = bytesOf y.f2
        · rw [h3, iless_self]; simp
        · rw [iless_ne _ _ h3]; cases iless (bytesOf x.f2) (bytesOf y.f2) <;> simp
      · rw [if_neg h2, if_neg h2]
        by_cases h3 : x.f0 = 3
        · rw [if_pos h3, if_pos h3]
          cases x.f3 <;> cases y.f3 <;> simp [sgn]
        · rw [if_neg h3, if_neg h3]; rfl
  · rw [if_neg h0, if_neg (Ne.symm h0), hl]
/-- The lists' texts are ordered as the lists are. -/
theorem lists_less : ∀ a b : List S36, (∀ x ∈ a, Ok x) → (∀ x ∈ b, Ok x) → sgn (iless (encL a) (encL b)) (iless (encL b) (encL a)) = lcmp a b
  | [], [] => fun _ _ => by simp [encL, iless, lcmp, sgn]
  | [], y :: b => fun _ _ => by simp [encL, encI, iless, lcmp, sgn]
  | x :: a, [] => fun _ _ => by simp [encL, encI, iless, lcmp, sgn]
  | x :: a, y :: b => fun ha hb => by
    have ih := lists_less a b (fun z hz => ha z (by simp [hz])) (fun z hz => hb z (by simp [hz]))
    have e1 := enc_less x y (ha x (by simp)) (hb y (by simp)) (encL a) (encL b)
    have e2 := enc_less y x (hb y (by simp)) (ha x (by simp)) (encL b) (encL a)
    simp only [encL, lcmp]
    rw [e1, e2, vcmp_back x y]
    rcases vcmp_tri x y with h | h | h
    · rw [h]; simp [sgn]
    · rw [h]; simpa using ih
    · rw [h]; simp [sgn]
end EncL
end Go.Proofs.Ytcchjnadhjeniaa.Pure
