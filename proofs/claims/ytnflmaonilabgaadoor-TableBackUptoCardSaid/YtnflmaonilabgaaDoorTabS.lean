/- Texts cut at a separator, plain: what comes of a text that was joined; no program in sight. -/
import Derived.Lib.SplitLaws
import Derived.Lib.Join
import Derived.Lib.IndexLaws
import Derived.Lib.IndexMore
namespace Go.Proofs.YtnflmaonilabgaaDoor.TabS
open Go
set_option linter.unusedVariables false
set_option linter.unusedSimpArgs false
theorem ext {a b : ByteArray} (h : a.data.toList = b.data.toList) : a = b := by
  apply ByteArray.ext
  apply Array.ext'
  exact h
theorem app (a b : ByteArray) : (a ++ b).data.toList = a.data.toList ++ b.data.toList := by simp
theorem sz (a : ByteArray) : a.size = a.data.toList.length := Lib.size_eq a
theorem from_ (s : ByteArray) (a n : Nat) (hn : n = s.size) : (s.extract a n).data.toList = s.data.toList.drop a := by
  subst hn
  rw [Lib.extract_data, sz, ← List.length_drop, List.take_length]
theorem upto_ (s : ByteArray) (a : Nat) : (s.extract 0 a).data.toList = s.data.toList.take a := by
  rw [Lib.extract_data]; simp
/-- A separator that begins with a byte that is not there is not there. -/
theorem index_no {p : List UInt8} {c : UInt8} {t : List UInt8} (h : c ∉ p) : Lib.index p (c :: t) = -1 := by
  apply Lib.index_none
  intro j hj
  cases hq : Lib.occAt p (c :: t) j with
  | false => rfl
  | true => exact absurd (List.mem_of_getElem? (Lib.occAt_head rfl hq)) h
theorem index_at {p r : List UInt8} {c : UInt8} {t : List UInt8} (h : c ∉ p) : Lib.index (p ++ (c :: t ++ r)) (c :: t) = p.length := by
  apply Lib.index_first
  · simp
  · unfold Lib.occAt
    rw [List.drop_left]
    exact List.isPrefixOf_iff_prefix.2 (List.prefix_append _ _)
  · intro j hj
    cases hq : Lib.occAt (p ++ (c :: t ++ r)) (c :: t) j with
    | false => rfl
    | true =>
      have hh := Lib.occAt_head rfl hq
      rw [List.getElem?_append_left hj] at hh
      exact absurd (List.mem_of_getElem? hh) h
theorem join_two (p q : List UInt8) (r : List (List UInt8)) (sep : List UInt8) : Lib.join (p :: q :: r) sep = p ++ (sep ++ Lib.join (q :: r) sep) := by
  rw [Lib.join_cons, Lib.join_cons]
  simp [Lib.joinTail, List.append_assoc]
/-- What was joined is cut as it was. -/
theorem splitK_join (c : UInt8) (t : List UInt8) : ∀ (ps : List (List UInt8)), ps ≠ [] → (∀ p ∈ ps, c ∉ p) → ∀ s, s = Lib.join ps (c :: t) → Lib.splitK (c :: t) 0 (Lib.count s (c :: t)) s = ps := by
  intro ps
  induction ps with
  | nil => intro h; exact absurd rfl h
  | cons p r ih =>
    intro _ h s hs
    cases r with
    | nil =>
      rw [Lib.join_one] at hs
      subst hs
      rw [Lib.count_miss (index_no (h _ (List.mem_cons_self ..)))]
      rfl
    | cons q r =>
      rw [join_two] at hs
      have hi : Lib.index s (c :: t) = p.length := by rw [hs]; exact index_at (h _ (List.mem_cons_self ..))
      have hd : s.drop (p.length + (c :: t).length) = Lib.join (q :: r) (c :: t) := by
        rw [hs, ← List.append_assoc, List.drop_left' (by simp)]
      rw [Lib.count_hit (by simp) hi, Nat.add_comm 1, Lib.splitK, if_neg (by rw [hi, beq_iff_eq]; omega), hi, Int.toNat_natCast, Nat.add_zero, hd]
      rw [ih (by simp) (fun p hp => h p (List.mem_cons_of_mem _ hp)) _ rfl, hs, List.take_left]
theorem splitB_join (sep s : ByteArray) (c : UInt8) (t : List UInt8) (ps : List (List UInt8)) (hsep : sep.data.toList = c :: t) (h0 : ps ≠ []) (h : ∀ p ∈ ps, c ∉ p) (hs : s.data.toList = Lib.join ps (c :: t)) :
    (Lib.splitB sep 0 (Lib.countB s sep) s).map (·.data.toList) = ps := by
  rw [Lib.splitB_data]
  unfold Lib.countB
  rw [hsep]
  exact splitK_join c t ps h0 h _ hs
theorem splitB_len (sep s : ByteArray) : 1 ≤ (Lib.splitB sep 0 (Lib.countB s sep) s).length := by
  cases h : Lib.countB s sep with
  | zero => simp [Lib.splitB]
  | succ k => unfold Lib.splitB; split <;> simp
/-- The pieces are no longer than the text. -/
theorem splitB_le (sep : ByteArray) : ∀ (k : Nat) (s : ByteArray), ∀ p ∈ Lib.splitB sep 0 k s, p.size ≤ s.size := by
  intro k
  induction k with
  | zero => intro s p hp; simp [Lib.splitB] at hp; subst hp; exact Nat.le_refl _
  | succ k ih =>
    intro s p hp
    unfold Lib.splitB at hp
    split at hp
    · simp at hp; subst hp; exact Nat.le_refl _
    · rcases List.mem_cons.1 hp with rfl | hp
      · rw [ByteArray.size_extract]; omega
      · have := ih _ p hp
        rw [ByteArray.size_extract] at this
        omega
theorem splitB_le_size (sep s : ByteArray) (h1 : 1 ≤ sep.size) : (Lib.splitB sep 0 (Lib.countB s sep) s).length ≤ s.size + 1 := by
  have h := Lib.splitB_length_le sep 0 (Lib.countB s sep) s
  have := Lib.countB_le sep h1 s.size s (Nat.le_refl _)
  omega
theorem index_le (s sub : List UInt8) : Lib.index s sub ≤ s.length ∧ -1 ≤ Lib.index s sub := by
  refine ⟨?_, Lib.index_ge s sub⟩
  rcases Lib.index_spec s sub with ⟨h, _⟩ | ⟨i, h, h2, _⟩ <;> omega
end Go.Proofs.YtnflmaonilabgaaDoor.TabS
