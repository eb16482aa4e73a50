/- Texts cut at a separator, plain: what comes of a text that was joined; no program in sight. -/
import Derived.Lib.SplitLaws
import Derived.Lib.Join
import Derived.Lib.IndexLaws
import Derived.Lib.IndexMore
namespace Go.Proofs.YtnflmaonilabgaaDoor.TabS
open Go
set_option linter.unusedVariables false
set_option linter.unusedSimpArgs false
theorem ext {a b : ByteArray} (h : a.data.toList = b.data.toList) : a = b := by
  apply ByteArray.ext
  apply Array.ext'
  exact h
theorem app (a b : ByteArray) : (a ++ b).data.toList = a.data.toList ++ b.data.toList := by simp
theorem sz (a : ByteArray) : a.size = a.data.toList.length := Lib.size_eq a
theorem from_ (s : ByteArray) (a n : Nat) (hn : n = s.size) : (s.extract a n).data.toList = s.data.toList.drop a := by
  subst hn
  rw [Lib.extract_data, sz, ← List.length_drop, List.take_length]
theorem upto_ (s : ByteArray) (a : Nat) : (s.extract 0 a).data.toList = s.data.toList.take a := by
  rw [Lib.extract_data]; simp
/-- A separator that begins with a byte that is not there is not there. -/
theorem index_no {p : List UInt8} {c : UInt8} {t : List UInt8} (h : c ∉ p) : Lib.index p (c :: t) = -1 := by
  apply Lib.index_none
  intro j hj
  cases hq : Lib.occAt p (c :: t) j with
  | false => rfl
  | true => exact absurd (List.mem_of_getElem? (Lib.occAt_head rfl hq)) h
theorem index_at {p r : List UInt8} {c : UInt8} {t : List UInt8} (h : c ∉ p) : Lib.index (p ++ (c :: t ++ r)) (c :: t) = p.length := by
  apply Lib.index_first
  · simp
  · unfold Lib.occAt
    rw [List.drop_left]
    exact List.isPrefixOf_iff_prefix.2 (List.prefix_append _ _)
  · intro j hj
    cases hq : Lib.occAt (p ++ (c :: t ++ r)) (c :: t) j with
    | false => rfl
    | true =>
      have hh := Lib.occAt_head rfl hq
      rw [List.getElem?_append_left hj] at hh
      exact absurd (List.mem_of_getElem? hh) h
theorem join_two (p q : List UInt8) (r : List (List UInt8)) (sep : List UInt8) : Lib.join (p :: q :: r) sep = p ++ (sep ++ Lib.join (q :: r) sep) := by
  rw [Lib.join_cons, Lib.join_cons]
  simp [Lib.joinTail, List.append_assoc]
/-- What was joined is cut as it was. -/
theorem splitK_join (c : UInt8) (t : List UInt8) : ∀ (ps : List (List UInt8)), ps ≠ [] → (∀ p ∈ ps, c ∉ p) → ∀ s, s = Lib.join ps (c :: t) → Lib.splitK (c :: t) 0 (Lib.count s (c :: t)) s = ps := by
  intro ps
  induction ps with
  | nil => intro h; exact absurd rfl h
  | cons p r ih =>
    intro _ h s hs
    cases r with
    | nil =>
      rw [Lib.join_one] at hs
      subst hs
      rw [Lib.count_miss (index_no (h _ (List.mem_cons_self ..)))]
      rfl
    | cons q r =>
      rw [join_two] at hs
      have hi : Lib.index s (c :: t) = p.length := by rw [hs]; exact index_at (h _ (List.mem_cons_self ..))
      have hd : s.drop (p.length + (c :: t).length) = Lib.join (q :: r) (c :: t) := by
        rw [hs, ← List.append_assoc, List.drop_left' (by simp)]
      rw [Lib.count_hit (by simp) hi, Nat.add_comm 1, Lib.splitK, if_neg (by rw [hi, beq_iff_eq]; omega), hi, Int.toNat_natCast, Nat.add_zero, hd]
      rw [ih (by simp) (fun p hp => h p (List.mem_cons_of_mem _ hp)) _ rfl, hs, List.take_left]
theorem splitB_join (sep s : ByteArray) (c : UInt8) (t : List UInt8) (ps : List (List UInt8)) (hsep : sep.data.toList = c :: t) (h0 : ps ≠ []) (h : ∀ p ∈ ps, c ∉ p) (hs : s.data.toList = Lib.join ps (c :: t)) :
    (Lib.splitB sep 0 (Lib.countB s sep) s).map (·.data.toList) = ps := by
  rw [Lib.splitB_data]
  unfold Lib.countB
  rw [hsep]
  exact splitK_join c t ps h0 h _ hs
theorem splitB_len (sep s : ByteArray) : 1 ≤ (Lib.splitB sep 0 (Lib.countB s sep) s).length := by
  cases h : Lib.countB s sep with
  | zero => simp [Lib.splitB]
  | succ k => unfold Lib.splitB; split <;> simp
/-- The pieces are no longer than the text. -/
theorem splitB_le (sep : ByteArray) : ∀ (k : Nat) (s : ByteArray), ∀ p ∈ Lib.splitB sep 0 k s, p.size ≤ s.size := by
  intro k
  induction k with
  | zero => intro s p hp; simp [Lib.splitB] at hp; subst hp; exact Nat.le_refl _
  | succ k ih =>
    intro s p hp
    unfold Lib.splitB at hp
    split at hp
    · simp at hp; subst hp; exact Nat.le_refl _
    · rcases List.mem_cons.1 hp with rfl | hp
      · rw [ByteArray.size_extract]; omega
      · have := ih _ p hp
        rw [ByteArray.size_extract] at this
        omega
theorem splitB_le_size (sep s : ByteArray) (h1 : 1 ≤ sep.size) : (Lib.splitB sep 0 (Lib.countB s sep) s).length ≤ s.size + 1 := by
  have h := Lib.splitB_length_le sep 0 (Lib.countB s sep) s
  have := Lib.countB_le sep h1 s.size s (Nat.le_refl _)
  omega
theorem index_le (s sub : List UInt8) : Lib.index s sub ≤ s.length ∧ -1 ≤ Lib.index s sub := by
  refine ⟨?_, Lib.index_ge s sub⟩
  rcases Lib.index_spec s sub with ⟨h, _⟩ | ⟨i, h, h2, _⟩ <;> omega
/-! #### words in a text -/
theorem has_cons (b : UInt8) (l sub : List UInt8) : 0 ≤ Lib.index (b :: l) sub ↔ sub.isPrefixOf (b :: l) = true ∨ 0 ≤ Lib.index l sub := by
  have hg := Lib.index_ge l sub
  rw [Lib.index]
  by_cases h : sub.isPrefixOf (b :: l) = true
  · rw [if_pos h]; simp [h]
  · rw [if_neg h]
    by_cases h2 : Lib.index l sub = -1
    · rw [if_pos (beq_iff_eq.2 h2), h2]; simp [h]
    · rw [if_neg (fun z => h2 (beq_iff_eq.1 z))]
      constructor
      · intro _; right; omega
      · intro _; omega
theorem has_nil (a : UInt8) (t : List UInt8) : ¬ 0 ≤ Lib.index [] (a :: t) := by simp [Lib.index]
theorem has_skip {c : UInt8} {t l : List UInt8} : ∀ u : List UInt8, c ∉ u → (0 ≤ Lib.index (u ++ l) (c :: t) ↔ 0 ≤ Lib.index l (c :: t)) := by
  intro u
  induction u with
  | nil => intro _; exact Iff.rfl
  | cons b u ih =>
    intro h
    have hb : ¬ (c :: t).isPrefixOf (b :: (u ++ l)) = true := by
      intro hp
      simp only [List.isPrefixOf, Bool.and_eq_true, beq_iff_eq] at hp
      exact h (hp.1 ▸ List.mem_cons_self ..)
    rw [List.cons_append, has_cons, ih (fun z => h (List.mem_cons_of_mem _ z))]
    simp [hb]
theorem has_one (c : UInt8) : ∀ l : List UInt8, 0 ≤ Lib.index l [c] ↔ c ∈ l := by
  intro l
  induction l with
  | nil => simp [Lib.index]
  | cons b l ih =>
    rw [has_cons, ih]
    simp only [List.isPrefixOf, Bool.and_true, beq_iff_eq, List.mem_cons]
/-- The words' text: a room ahead of each word, and one behind them all. -/
def wtext : List (List UInt8) → List UInt8
  | [] => [32]
  | w :: r => 32 :: (w ++ wtext r)
theorem wtext_head : ∀ ws, ∃ x, wtext ws = 32 :: x := by
  intro ws
  cases ws with
  | nil => exact ⟨_, rfl⟩
  | cons w r => exact ⟨_, rfl⟩
theorem pre_word {x : List UInt8} : ∀ (s w : List UInt8), 32 ∉ s → 32 ∉ w → ((s ++ [32]).isPrefixOf (w ++ 32 :: x) = true ↔ s = w) := by
  intro s
  induction s with
  | nil =>
    intro w _ hw
    cases w with
    | nil => simp [List.isPrefixOf]
    | cons c w =>
      simp only [List.nil_append, List.cons_append, List.isPrefixOf, Bool.and_true, beq_iff_eq]
      constructor
      · intro h; exact absurd (h ▸ List.mem_cons_self ..) hw
      · intro h; cases h
  | cons a s ih =>
    intro w hs hw
    cases w with
    | nil =>
      simp only [List.nil_append, List.cons_append, List.isPrefixOf, Bool.and_eq_true, beq_iff_eq]
      constructor
      · intro h; exact absurd (h.1 ▸ List.mem_cons_self ..) hs
      · intro h; cases h
    | cons c w =>
      have h := ih w (fun z => hs (List.mem_cons_of_mem _ z)) (fun z => hw (List.mem_cons_of_mem _ z))
      simp only [List.cons_append, List.isPrefixOf, Bool.and_eq_true, beq_iff_eq, h, List.cons.injEq]
theorem has_words {s : List UInt8} (hs : 32 ∉ s) (h0 : s ≠ []) : ∀ ws : List (List UInt8), (∀ w ∈ ws, 32 ∉ w) → (0 ≤ Lib.index (wtext ws) (32 :: (s ++ [32])) ↔ s ∈ ws) := by
  intro ws
  induction ws with
  | nil =>
    intro _
    simp only [wtext, List.not_mem_nil, iff_false]
    rw [has_cons]
    rintro (h | h)
    · cases s with
      | nil => exact h0 rfl
      | cons a s => simp [List.isPrefixOf] at h
    · exact has_nil _ _ h
  | cons w r ih =>
    intro h
    have hw := h w (List.mem_cons_self ..)
    obtain ⟨x, hx⟩ := wtext_head r
    have hi := ih (fun z hz => h z (List.mem_cons_of_mem _ hz))
    rw [wtext, has_cons, has_skip w hw, hi, List.mem_cons]
    have hp : (32 :: (s ++ [32])).isPrefixOf (32 :: (w ++ wtext r)) = (s ++ [32]).isPrefixOf (w ++ wtext r) := by simp [List.isPrefixOf]
    rw [hp, hx, pre_word s w hs hw]
theorem join_end (sep q : List UInt8) : ∀ (x : List UInt8) (r : List (List UInt8)), Lib.join (x :: r ++ [q]) sep = Lib.join (x :: r) sep ++ (sep ++ q) := by
  intro x r
  rw [List.cons_append, Lib.join_cons, Lib.join_cons]
  simp [Lib.joinTail, List.append_assoc]
theorem join_no {c : UInt8} {sep : List UInt8} (hs : c ∉ sep) : ∀ ps : List (List UInt8), (∀ p ∈ ps, c ∉ p) → c ∉ Lib.join ps sep := by
  intro ps
  induction ps with
  | nil => intro _; simp [Lib.join_nil]
  | cons p r ih =>
    intro h
    have hp := h p (List.mem_cons_self ..)
    cases r with
    | nil => rw [Lib.join_one]; exact hp
    | cons q r =>
      have hr := ih (fun z hz => h z (List.mem_cons_of_mem _ hz))
      rw [join_two]
      simp only [List.mem_append, not_or]
      exact ⟨hp, hs, hr⟩
end Go.Proofs.YtnflmaonilabgaaDoor.TabS
