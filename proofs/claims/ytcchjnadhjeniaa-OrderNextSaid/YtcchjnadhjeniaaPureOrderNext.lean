/- OrderNext: the least text above those that begin with one is above each of them, and no text lies between them all and it. -/
import Derived.Test.YtcchjnadhjeniaaXAllx8
import Derived.Test.YtcchjnadhjeniaaSure06
import Derived.Lib.Strings
import Derived.Laws.BytesArg
namespace Go.Proofs.Ytcchjnadhjeniaa.Pure
open Go.RowKit Go.Proofs.Ytcchjnadhjeniaa.XAll Go.Proofs.YtcchjnadhjeniaaW.PrintWords Go.Proofs.YtcchjnadhjeniaaW.PrintLast
set_option linter.unusedVariables false
set_option linter.unusedSimpArgs false
namespace NextL
theorem less_next (c d : UInt8) (h : c < d) : ∀ (p r : List UInt8), Op.bytesLess (p ++ c :: r) (p ++ [d]) = true
  | [], r => by simp [Op.bytesLess, h]
  | a :: p, r => by simp [Op.bytesLess, less_next c d h p r]
theorem run_of (x : List UInt8) : ∀ m, Op.bytesLess x (List.replicate m 255) = false → ∃ r, x = List.replicate m 255 ++ r
  | 0, _ => ⟨x, by simp⟩
  | m + 1, h => by
    cases x with
    | nil => simp [Op.bytesLess, List.replicate_succ] at h
    | cons e z =>
      simp only [List.replicate_succ, Op.bytesLess, Bool.or_eq_false_iff, decide_eq_false_iff_not, Bool.and_eq_false_imp, beq_iff_eq] at h
      have he : e = 255 := by
        have h1 := h.1
        have h2 : ¬ e.toNat < 255 := h1
        have h3 := e.toNat_lt
        have h4 : e.toNat = (255 : UInt8).toNat := by show e.toNat = 255; omega
        exact UInt8.toNat_inj.1 h4
      obtain ⟨r, hr⟩ := run_of z m (h.2 he)
      exact ⟨r, by rw [he, hr, List.replicate_succ, List.cons_append]⟩
theorem between (c d : UInt8) (m : Nat) (hd : d.toNat = c.toNat + 1) : ∀ (p x : List UInt8), Op.bytesLess x (p ++ c :: List.replicate m 255) = false → Op.bytesLess x (p ++ [d]) = true →
    ∃ r, x = (p ++ c :: List.replicate m 255) ++ r
  | [], x => by
    intro h1 h2
    cases x with
    | nil => simp [Op.bytesLess] at h1
    | cons e z =>
      simp only [List.nil_append, Op.bytesLess, Bool.or_eq_false_iff, decide_eq_false_iff_not, Bool.and_eq_false_imp, beq_iff_eq] at h1
      simp only [List.nil_append, Op.bytesLess, Bool.or_eq_true, decide_eq_true_eq, Bool.and_eq_true, beq_iff_eq, and_false, or_false] at h2
      have he : e = c := by
        have h3 : ¬ e.toNat < c.toNat := h1.1
        have h4 : e.toNat < d.toNat := by
          have h5 : e < d := by simpa using h2
          exact h5
        exact UInt8.toNat_inj.1 (by omega)
      obtain ⟨r, hr⟩ := run_of z m (h1.2 he)
      exact ⟨r, by rw [he, hr]; rfl⟩
  | a :: p, x => by
    intro h1 h2
    cases x with
    | nil => simp [Op.bytesLess] at h1
    | cons e z =>
      simp only [List.cons_append, Op.bytesLess, Bool.or_eq_false_iff, decide_eq_false_iff_not, Bool.and_eq_false_imp, beq_iff_eq] at h1
      simp only [List.cons_append, Op.bytesLess, Bool.or_eq_true, decide_eq_true_eq, Bool.and_eq_true, beq_iff_eq] at h2
      have he : e = a ∧ Op.bytesLess z (p ++ [d]) = true := by
        rcases h2 with h | h
        · exact absurd h h1.1
        · exact h
      obtain ⟨r, hr⟩ := between c d m hd p z (h1.2 he.1) he.2
      exact ⟨r, by rw [he.1, hr]; rfl⟩
theorem rd_bytes (s : ByteArray) (j : Nat) (hj : j < s.data.toList.length) : rd (bytesOf s) (j : Int) = ((s.data.toList[j]).toNat : Int) := by
  have hj' : j < s.data.size := by simpa using hj
  unfold rd bytesOf
  simp [Array.getElem?_eq_getElem hj']
theorem trim_spec (l : List Int) : ∀ n, (∀ j, trimTo l n ≤ j → j < n → rd l (j : Int) = 255) ∧ (trimTo l n = 0 ∨ rd l ((trimTo l n - 1 : Nat) : Int) ≠ 255)
  | 0 => ⟨fun j h1 h2 => by omega, .inl rfl⟩
  | n + 1 => by
    have ih := trim_spec l n
    unfold trimTo
    by_cases h : rd l (n : Int) = 255
    · rw [if_pos h]
      refine ⟨fun j h1 h2 => ?_, ih.2⟩
      by_cases hj : j = n
      · rw [hj]; exact h
      · exact ih.1 j h1 (by omega)
    · rw [if_neg h]
      exact ⟨fun j h1 h2 => by omega, .inr (by simpa using h)⟩
theorem byte_255 (b : UInt8) : ((b.toNat : Nat) : Int) = 255 ↔ b = 255 := by
  constructor
  · intro h
    exact UInt8.toNat_inj.1 (show b.toNat = 255 by omega)
  · rintro rfl; rfl
/-- What a text is: all 255, or a begin, a byte less than 255, and 255s. -/
theorem next_cases (s : ByteArray) (hs : s.size < 140737488355328) :
    (order_Next.f s = some (⟨#[]⟩, false) ∧ ∀ j, j < s.size → rd (bytesOf s) (j : Int) = 255) ∨
    (∃ p c d m t, order_Next.f s = some (t, true) ∧ s.data.toList = p ++ c :: List.replicate m 255 ∧ t.data.toList = p ++ [d] ∧ d.toNat = c.toNat + 1) := by
  unfold order_Next.f
  rw [if_pos hs]
  have hlen : s.data.toList.length = s.size := by simp
  obtain ⟨h1, h2⟩ := trim_spec (bytesOf s) s.size
  have hle := trimTo_le (bytesOf s) s.size
  obtain ⟨k, hk⟩ : ∃ k, k = trimTo (bytesOf s) s.size := ⟨_, rfl⟩
  rw [← hk] at h1 h2 hle ⊢
  by_cases h0 : k = 0
  · rw [if_pos h0]
    exact .inl ⟨rfl, fun j hj => h1 j (by omega) hj⟩
  · rw [if_neg h0]
    right
    have hkl : k - 1 < s.data.toList.length := by omega
    have hr := rd_bytes s (k - 1) hkl
    have hc : s.data.toList[k - 1] ≠ 255 := by
      intro h
      rcases h2 with h2 | h2
      · exact h0 h2
      · rw [hr] at h2; exact h2 ((byte_255 _).2 h)
    have hcl : (s.data.toList[k - 1]).toNat < 255 := by
      have h3 := (s.data.toList[k - 1]).toNat_lt
      have h4 : (s.data.toList[k - 1]).toNat ≠ 255 := fun h => hc (UInt8.toNat_inj.1 h)
      omega
    have hd : (UInt8.ofNat ((rd (bytesOf s) ((k - 1 : Nat) : Int) + 1) % 256).toNat).toNat = (s.data.toList[k - 1]).toNat + 1 := by
      rw [hr, show (((s.data.toList[k - 1]).toNat : Int) + 1) % 256 = (((s.data.toList[k - 1]).toNat + 1 : Nat) : Int) by omega, Int.toNat_natCast, UInt8.toNat_ofNat']
      omega
    refine ⟨s.data.toList.take (k - 1), s.data.toList[k - 1], _, s.size - k, _, rfl, ?_, ?_, hd⟩
    · have e1 : s.data.toList.drop k = List.replicate (s.size - k) 255 := by
        apply List.eq_replicate_iff.2
        refine ⟨by rw [List.length_drop, hlen], fun b hb => ?_⟩
        obtain ⟨i, hi, hb'⟩ := List.mem_iff_getElem.1 hb
        rw [List.length_drop] at hi
        have h5 := h1 (k + i) (by omega) (by omega)
        rw [rd_bytes s (k + i) (by omega)] at h5
        rw [← hb', List.getElem_drop]
        exact (byte_255 _).1 h5
      rw [← e1]
      conv => lhs; rw [← List.take_append_drop (k - 1) s.data.toList, List.drop_eq_getElem_cons hkl, show k - 1 + 1 = k by omega]
    · rw [strOfNums_data, List.map_append, List.map_take]
      congr 1
      congr 1
      unfold bytesOf
      rw [List.map_map]
      conv => rhs; rw [← List.map_id s.data.toList]
      apply List.map_congr_left
      intro b _
      simp
theorem all_255 (x0 x7 : ByteArray) (h : x7.toList = ([] : List UInt8)) (hs : x0.size < 140737488355328) (ha : ∀ j, j < x0.size → rd (bytesOf x0) (j : Int) = 255) :
    ∀ (d i k : Nat), i + d = x0.size → d + 30 ≤ k → barbicanlaw06_OrderNext.l0 k x0 x7 (i : Int) = some true
  | 0, i, k, hi, hk => by
    obtain ⟨k, rfl⟩ : ∃ q, k = q + 1 := ⟨k - 1, by omega⟩
    simp only [barbicanlaw06_OrderNext.l0]
    rw [if_neg (by omega), if_pos h, sure06 k (by omega), Option.bind_some]
  | d + 1, i, k, hi, hk => by
    obtain ⟨k, rfl⟩ : ∃ q, k = q + 1 := ⟨k - 1, by omega⟩
    simp only [barbicanlaw06_OrderNext.l0]
    have hb : bt x0 (i : Int) = 255 := by
      have h1 := ha i (by omega)
      rw [rd_bytes x0 i (by simp; omega)] at h1
      unfold bt
      rw [dif_pos (by rw [Int.toNat_natCast]; omega)]
      simp only [Array.getElem_toList] at h1
      exact h1
    rw [if_pos (by omega), if_pos (by omega), if_pos hb, show wrap64 ((i : Int) + 1) = ((i + 1 : Nat) : Int) by simp [wrap64, IntKind.wrap]; omega]
    exact all_255 x0 x7 h hs ha d (i + 1) k (by omega) (by omega)
end NextL
open NextL
theorem OrderNext : barbicanlaw06_OrderNext.Pure := by
  intro a0 a1 a2 h0 h1 h2
  obtain ⟨k, hk⟩ : ∃ k : Nat, a0.size + 1000 ≤ k := ⟨_, Nat.le_refl _⟩
  refine ⟨k, ?_⟩
  have hS := sure06 k (by omega)
  unfold barbicanlaw06_OrderNext.f
  rcases next_cases a0 (by omega) with ⟨hf, ha⟩ | ⟨p, c, d, m, t, hf, hl, ht, hd⟩
  · rw [hf, Option.bind_some, if_neg (by show ¬ (false = true); decide)]
    exact all_255 a0 ⟨#[]⟩ (by rw [Lib.toList_data]) (by omega) ha a0.size 0 k (by omega) (by omega)
  · rw [hf, Option.bind_some, if_pos (by rfl), if_pos (by omega)]
    have hcd : c < d := by show c.toNat < d.toNat; omega
    have e0 : a0.toList = p ++ c :: List.replicate m 255 := by rw [Lib.toList_data, hl]
    have et : t.toList = p ++ [d] := by rw [Lib.toList_data, ht]
    have ea : (a0 ++ a1).toList = p ++ c :: (List.replicate m 255 ++ a1.data.toList) := by rw [Lib.toList_data, ByteArray.data_append, Array.toList_append, hl]; simp
    rw [if_pos (by rw [ea]; show Op.bytesLess _ t.toList = true; rw [et]; exact less_next c d hcd p _)]
    by_cases c1 : Op.bytesLess a2.toList a0.toList = true
    · rw [if_pos c1, hS, Option.bind_some]
    · rw [if_neg c1]
      by_cases c2 : Op.bytesLess a2.toList t.toList = true
      · rw [if_pos c2]
        rw [e0] at c1
        rw [et] at c2
        obtain ⟨r, hr⟩ := between c d m hd p a2.toList (by simpa using c1) c2
        rw [← e0] at hr
        have hsz : a2.size = a0.size + r.length := by
          have e1 : a2.toList.length = a2.size := by rw [Lib.toList_data]; simp
          have e2 : a0.toList.length = a0.size := by rw [Lib.toList_data]; simp
          have e3 := congrArg List.length hr
          rw [List.length_append] at e3
          omega
        have e2 : a0.toList.length = a0.size := by rw [Lib.toList_data]; simp
        rw [if_neg (by omega), if_pos (by omega), if_pos (by omega), if_pos (by rw [Lib.toList_data, Lib.extract_data, ← Lib.toList_data, hr, Int.toNat_natCast, List.drop_zero, Nat.sub_zero, ← e2, List.take_left]), hS, Option.bind_some]
      · rw [if_neg c2, hS, Option.bind_some]
end Go.Proofs.Ytcchjnadhjeniaa.Pure
