/- TableCatalogs: the document's New and Find answer as the program's; then the walk's two branches together. -/
import Derived.Test.YtkcbgnhgjlbmlaaDoorTcTcX
import Derived.Test.YtkcbgnhgjlbmlaaDoorXSt39
import Derived.Test.YtkcbgnhgjlbmlaaDoorXSt25
import Derived.Test.YtkcbgnhgjlbmlaaDoorXTcx8
import Derived.Test.YtkcbgnhgjlbmlaaDoorXTcx7
import Derived.Test.YtkcbgnhgjlbmlaaDoorXTcx13
import Derived.Test.YtkcbgnhgjlbmlaaDoorXTcx15
import Derived.Test.YtkcbgnhgjlbmlaaDoorXTcx14
import Derived.Lib.SplitLaws
import Derived.Lib.Join
import Derived.Lib.IndexLaws
import Derived.Lib.IndexMore
/- Texts cut at a separator, plain: what comes of a text that was joined; no program in sight. -/
namespace Go.Proofs.YtkcbgnhgjlbmlaaDoor.TabS
open Go
set_option linter.unusedVariables false
set_option linter.unusedSimpArgs false
theorem ext {a b : ByteArray} (h : a.data.toList = b.data.toList) : a = b := by
  apply ByteArray.ext
  apply Array.ext'
  exact h
theorem app (a b : ByteArray) : (a ++ b).data.toList = a.data.toList ++ b.data.toList := by simp
theorem sz (a : ByteArray) : a.size = a.data.toList.length := Lib.size_eq a
theorem from_ (s : ByteArray) (a n : Nat) (hn : n = s.size) : (s.extract a n).data.toList = s.data.toList.drop a := by
  subst hn
  rw [Lib.extract_data, sz, ← List.length_drop, List.take_length]
theorem upto_ (s : ByteArray) (a : Nat) : (s.extract 0 a).data.toList = s.data.toList.take a := by
  rw [Lib.extract_data]; simp
/-- A separator that begins with a byte that is not there is not there. -/
theorem index_no {p : List UInt8} {c : UInt8} {t : List UInt8} (h : c ∉ p) : Lib.index p (c :: t) = -1 := by
  apply Lib.index_none
  intro j hj
  cases hq : Lib.occAt p (c :: t) j with
  | false => rfl
  | true => exact absurd (List.mem_of_getElem? (Lib.occAt_head rfl hq)) h
theorem index_at {p r : List UInt8} {c : UInt8} {t : List UInt8} (h : c ∉ p) : Lib.index (p ++ (c :: t ++ r)) (c :: t) = p.length := by
  apply Lib.index_first
  · simp
  · unfold Lib.occAt
    rw [List.drop_left]
    exact List.isPrefixOf_iff_prefix.2 (List.prefix_append _ _)
  · intro j hj
    cases hq : Lib.occAt (p ++ (c :: t ++ r)) (c :: t) j with
    | false => rfl
    | true =>
      have hh := Lib.occAt_head rfl hq
      rw [List.getElem?_append_left hj] at hh
      exact absurd (List.mem_of_getElem? hh) h
theorem join_two (p q : List UInt8) (r : List (List UInt8)) (sep : List UInt8) : Lib.join (p :: q :: r) sep = p ++ (sep ++ Lib.join (q :: r) sep) := by
  rw [Lib.join_cons, Lib.join_cons]
  simp [Lib.joinTail, List.append_assoc]
/-- What was joined is cut as it was. -/
theorem splitK_join (c : UInt8) (t : List UInt8) : ∀ (ps : List (List UInt8)), ps ≠ [] → (∀ p ∈ ps, c ∉ p) → ∀ s, s = Lib.join ps (c :: t) → Lib.splitK (c :: t) 0 (Lib.count s (c :: t)) s = ps := by
  intro ps
  induction ps with
  | nil => intro h; exact absurd rfl h
  | cons p r ih =>
    intro _ h s hs
    cases r with
    | nil =>
      rw [Lib.join_one] at hs
      subst hs
      rw [Lib.count_miss (index_no (h _ (List.mem_cons_self ..)))]
      rfl
    | cons q r =>
      rw [join_two] at hs
      have hi : Lib.index s (c :: t) = p.length := by rw [hs]; exact index_at (h _ (List.mem_cons_self ..))
      have hd : s.drop (p.length + (c :: t).length) = Lib.join (q :: r) (c :: t) := by
        rw [hs, ← List.append_assoc, List.drop_left' (by simp)]
      rw [Lib.count_hit (by simp) hi, Nat.add_comm 1, Lib.splitK, if_neg (by rw [hi, beq_iff_eq]; omega), hi, Int.toNat_natCast, Nat.add_zero, hd]
      rw [ih (by simp) (fun p hp => h p (List.mem_cons_of_mem _ hp)) _ rfl, hs, List.take_left]
theorem splitB_join (sep s : ByteArray) (c : UInt8) (t : List UInt8) (ps : List (List UInt8)) (hsep : sep.data.toList = c :: t) (h0 : ps ≠ []) (h : ∀ p ∈ ps, c ∉ p) (hs : s.data.toList = Lib.join ps (c :: t)) :
    (Lib.splitB sep 0 (Lib.countB s sep) s).map (·.data.toList) = ps := by
  rw [Lib.splitB_data]
  unfold Lib.countB
  rw [hsep]
  exact splitK_join c t ps h0 h _ hs
theorem splitB_len (sep s : ByteArray) : 1 ≤ (Lib.splitB sep 0 (Lib.countB s sep) s).length := by
  cases h : Lib.countB s sep with
  | zero => simp [Lib.splitB]
  | succ k => unfold Lib.splitB; split <;> simp
/-- The pieces are no longer than the text. -/
theorem splitB_le (sep : ByteArray) : ∀ (k : Nat) (s : ByteArray), ∀ p ∈ Lib.splitB sep 0 k s, p.size ≤ s.size := by
  intro k
  induction k with
  | zero => intro s p hp; simp [Lib.splitB] at hp; subst hp; exact Nat.le_refl _
  | succ k ih =>
    intro s p hp
    unfold Lib.splitB at hp
    split at hp
    · simp at hp; subst hp; exact Nat.le_refl _
    · rcases List.mem_cons.1 hp with rfl | hp
      · rw [ByteArray.size_extract]; omega
      · have := ih _ p hp
        rw [ByteArray.size_extract] at this
        omega
theorem splitB_le_size (sep s : ByteArray) (h1 : 1 ≤ sep.size) : (Lib.splitB sep 0 (Lib.countB s sep) s).length ≤ s.size + 1 := by
  have h := Lib.splitB_length_le sep 0 (Lib.countB s sep) s
  have := Lib.countB_le sep h1 s.size s (Nat.le_refl _)
  omega
theorem index_le (s sub : List UInt8) : Lib.index s sub ≤ s.length ∧ -1 ≤ Lib.index s sub := by
  refine ⟨?_, Lib.index_ge s sub⟩
  rcases Lib.index_spec s sub with ⟨h, _⟩ | ⟨i, h, h2, _⟩ <;> omega
/-! #### words in a text -/
theorem has_cons (b : UInt8) (l sub : List UInt8) : 0 ≤ Lib.index (b :: l) sub ↔ sub.isPrefixOf (b :: l) = true ∨ 0 ≤ Lib.index l sub := by
  have hg := Lib.index_ge l sub
  rw [Lib.index]
  by_cases h : sub.isPrefixOf (b :: l) = true
  · rw [if_pos h]; simp [h]
  · rw [if_neg h]
    by_cases h2 : Lib.index l sub = -1
    · rw [if_pos (beq_iff_eq.2 h2), h2]; simp [h]
    · rw [if_neg (fun z => h2 (beq_iff_eq.1 z))]
      constructor
      · intro _; right; omega
      · intro _; omega
theorem has_nil (a : UInt8) (t : List UInt8) : ¬ 0 ≤ Lib.index [] (a :: t) := by simp [Lib.index]
theorem has_skip {c : UInt8} {t l : List UInt8} : ∀ u : List UInt8, c ∉ u → (0 ≤ Lib.index (u ++ l) (c :: t) ↔ 0 ≤ Lib.index l (c :: t)) := by
  intro u
  induction u with
  | nil => intro _; exact Iff.rfl
  | cons b u ih =>
    intro h
    have hb : ¬ (c :: t).isPrefixOf (b :: (u ++ l)) = true := by
      intro hp
      simp only [List.isPrefixOf, Bool.and_eq_true, beq_iff_eq] at hp
      exact h (hp.1 ▸ List.mem_cons_self ..)
    rw [List.cons_append, has_cons, ih (fun z => h (List.mem_cons_of_mem _ z))]
    simp [hb]
theorem has_one (c : UInt8) : ∀ l : List UInt8, 0 ≤ Lib.index l [c] ↔ c ∈ l := by
  intro l
  induction l with
  | nil => simp [Lib.index]
  | cons b l ih =>
    rw [has_cons, ih]
    simp only [List.isPrefixOf, Bool.and_true, beq_iff_eq, List.mem_cons]
/-- The words' text: a room ahead of each word, and one behind them all. -/
def wtext : List (List UInt8) → List UInt8
  | [] => [32]
  | w :: r => 32 :: (w ++ wtext r)
theorem wtext_head : ∀ ws, ∃ x, wtext ws = 32 :: x := by
  intro ws
  cases ws with
  | nil => exact ⟨_, rfl⟩
  | cons w r => exact ⟨_, rfl⟩
theorem pre_word {x : List UInt8} : ∀ (s w : List UInt8), 32 ∉ s → 32 ∉ w → ((s ++ [32]).isPrefixOf (w ++ 32 :: x) = true ↔ s = w) := by
  intro s
  induction s with
  | nil =>
    intro w _ hw
    cases w with
    | nil => simp [List.isPrefixOf]
    | cons c w =>
      simp only [List.nil_append, List.cons_append, List.isPrefixOf, Bool.and_true, beq_iff_eq]
      constructor
      · intro h; exact absurd (h ▸ List.mem_cons_self ..) hw
      · intro h; cases h
  | cons a s ih =>
    intro w hs hw
    cases w with
    | nil =>
      simp only [List.nil_append, List.cons_append, List.isPrefixOf, Bool.and_eq_true, beq_iff_eq]
      constructor
      · intro h; exact absurd (h.1 ▸ List.mem_cons_self ..) hs
      · intro h; cases h
    | cons c w =>
      have h := ih w (fun z => hs (List.mem_cons_of_mem _ z)) (fun z => hw (List.mem_cons_of_mem _ z))
      simp only [List.cons_append, List.isPrefixOf, Bool.and_eq_true, beq_iff_eq, h, List.cons.injEq]
theorem has_words {s : List UInt8} (hs : 32 ∉ s) (h0 : s ≠ []) : ∀ ws : List (List UInt8), (∀ w ∈ ws, 32 ∉ w) → (0 ≤ Lib.index (wtext ws) (32 :: (s ++ [32])) ↔ s ∈ ws) := by
  intro ws
  induction ws with
  | nil =>
    intro _
    simp only [wtext, List.not_mem_nil, iff_false]
    rw [has_cons]
    rintro (h | h)
    · cases s with
      | nil => exact h0 rfl
      | cons a s => simp [List.isPrefixOf] at h
    · exact has_nil _ _ h
  | cons w r ih =>
    intro h
    have hw := h w (List.mem_cons_self ..)
    obtain ⟨x, hx⟩ := wtext_head r
    have hi := ih (fun z hz => h z (List.mem_cons_of_mem _ hz))
    rw [wtext, has_cons, has_skip w hw, hi, List.mem_cons]
    have hp : (32 :: (s ++ [32])).isPrefixOf (32 :: (w ++ wtext r)) = (s ++ [32]).isPrefixOf (w ++ wtext r) := by simp [List.isPrefixOf]
    rw [hp, hx, pre_word s w hs hw]
theorem join_end (sep q : List UInt8) : ∀ (x : List UInt8) (r : List (List UInt8)), Lib.join (x :: r ++ [q]) sep = Lib.join (x :: r) sep ++ (sep ++ q) := by
  intro x r
  rw [List.cons_append, Lib.join_cons, Lib.join_cons]
  simp [Lib.joinTail, List.append_assoc]
theorem join_no {c : UInt8} {sep : List UInt8} (hs : c ∉ sep) : ∀ ps : List (List UInt8), (∀ p ∈ ps, c ∉ p) → c ∉ Lib.join ps sep := by
  intro ps
  induction ps with
  | nil => intro _; simp [Lib.join_nil]
  | cons p r ih =>
    intro h
    have hp := h p (List.mem_cons_self ..)
    cases r with
    | nil => rw [Lib.join_one]; exact hp
    | cons q r =>
      have hr := ih (fun z hz => h z (List.mem_cons_of_mem _ hz))
      rw [join_two]
      simp only [List.mem_append, not_or]
      exact ⟨hp, hs, hr⟩
end Go.Proofs.YtkcbgnhgjlbmlaaDoor.TabS
/- Tables, plain: what the program's Name, Check, Text and Parse answer; a text that is read is a table's text, and is read as it. -/
namespace Go.Proofs.YtkcbgnhgjlbmlaaDoor.Pure
open Go.RowKit Go.Proofs.YtkcbgnhgjlbmlaaDoor.XTc Go.Proofs.YtkcbgnhgjlbmlaaDoorW.PrintWords Go.Proofs.YtkcbgnhgjlbmlaaDoorW.PrintLast Go.Proofs.YtkcbgnhgjlbmlaaDoorW.PrintMore
set_option linter.unusedVariables false
set_option linter.unusedSimpArgs false
namespace TabL
open TabS (ext app sz from_ upto_)
theorem wrap64_small (x : Int) (h0 : -9223372036854775808 ≤ x) (h1 : x < 9223372036854775808) : wrap64 x = x := by
  unfold wrap64
  omega
theorem step64 (i : Nat) (h : i < 9223372036854775000) : wrap64 ((i : Int) + 1) = ((i + 1 : Nat) : Int) := by rw [wrap64_small _ (by omega) (by omega)]; omega
theorem tl (s : ByteArray) : s.toList = s.data.toList := Lib.toList_data s
/-! #### names -/
/-- May the byte b stand at place i of a name? -/
def okB (i : Nat) (b : Int) : Bool := decide ((97 ≤ b ∧ b ≤ 122) ∨ (i ≠ 0 ∧ (b = 95 ∨ (48 ≤ b ∧ b ≤ 57))))
def okFrom (s : ByteArray) : Nat → Nat → Bool
  | 0, _ => true
  | d + 1, i => okB i (bt s (i : Int)) && okFrom s d (i + 1)
theorem okFrom_at (s : ByteArray) : ∀ d i : Nat, okFrom s d i = true → ∀ j, i ≤ j → j < i + d → okB j (bt s (j : Int)) = true := by
  intro d
  induction d with
  | zero => intro i _ j h1 h2; omega
  | succ d ih =>
    intro i h j h1 h2
    unfold okFrom at h
    rw [Bool.and_eq_true] at h
    by_cases hj : j = i
    · subst hj; exact h.1
    · exact ih (i + 1) h.2 j (by omega) (by omega)
theorem name_l0 (s : ByteArray) (hs : s.size < 9223372036854770000) : ∀ d k i : Nat, i + d = s.size → d < k → table_Name.l0 k s (s.size : Int) (i : Int) = some (okFrom s d i) := by
  intro d
  induction d with
  | zero =>
    intro k i hi hk
    obtain ⟨k, rfl⟩ : ∃ q, k = q + 1 := ⟨k - 1, by omega⟩
    simp only [table_Name.l0]
    rw [if_neg (by omega)]
    rfl
  | succ d ih =>
    intro k i hi hk
    obtain ⟨k, rfl⟩ : ∃ q, k = q + 1 := ⟨k - 1, by omega⟩
    have hr := ih k (i + 1) (by omega) (by omega)
    simp only [table_Name.l0]
    rw [if_pos (by omega), if_pos (by omega), if_pos (by omega), step64 i (by omega), hr]
    have e : okFrom s (d + 1) i = (okB i (bt s (i : Int)) && okFrom s d (i + 1)) := rfl
    rw [e]
    generalize okFrom s d (i + 1) = r
    generalize bt s (i : Int) = b
    repeat' split
    all_goals first
      | (exfalso; omega)
      | (rw [show okB i b = true from decide_eq_true (by omega), Bool.true_and])
      | (rw [show okB i b = false from decide_eq_false (by omega), Bool.false_and])
theorem contains_f (a b : ByteArray) (h : a.size < 4294967281 ∨ b.size = 1) : strings_Contains.f a b = some (Lib.contains a.data.toList b.data.toList) := if_pos h
theorem resv_some (s : ByteArray) (h : s.size < 9223372036854700000) : ∃ b, table_Reserved.f s = some b := by
  unfold table_Reserved.f
  split
  · exact ⟨_, rfl⟩
  · rw [contains_f _ _ (.inr rfl), Option.bind_some]
    split
    · exact ⟨_, rfl⟩
    · rw [if_pos (by omega), if_pos (by rw [ByteArray.size_append]; simp only [ByteArray.size, List.size_toArray, List.length_cons, List.length_nil] at *; omega), contains_f _ _ (.inl (by decide +kernel)), Option.bind_some]
      exact ⟨_, rfl⟩
def resv (s : ByteArray) : Bool := (table_Reserved.f s).getD false
theorem resv_f (s : ByteArray) (h : s.size < 9223372036854700000) : table_Reserved.f s = some (resv s) := by
  obtain ⟨b, hb⟩ := resv_some s h
  rw [resv, hb]
  rfl
/-- Is it a name? -/
def nm (s : ByteArray) : Bool := decide (1 ≤ s.size ∧ s.size ≤ 32) && (!resv s && okFrom s s.size 0)
theorem name_f (k : Nat) (hk : 40 ≤ k) (s : ByteArray) : table_Name.f k s = some (nm s) := by
  unfold table_Name.f nm
  obtain ⟨k, rfl⟩ : ∃ q, k = q + 1 := ⟨k - 1, by omega⟩
  split
  · rw [show decide (1 ≤ s.size ∧ s.size ≤ 32) = false from decide_eq_false (by omega), Bool.false_and]
    rfl
  · split
    · rw [show decide (1 ≤ s.size ∧ s.size ≤ 32) = false from decide_eq_false (by omega), Bool.false_and]
      rfl
    · rw [show decide (1 ≤ s.size ∧ s.size ≤ 32) = true from decide_eq_true (by omega), Bool.true_and, resv_f s (by omega), Option.bind_some]
      simp only [table_Name.j0]
      cases hr : resv s with
      | true => rfl
      | false =>
        rw [if_neg (by decide)]
        exact name_l0 s (by omega) s.size k 0 (by omega) (by omega)
theorem nm_size {s : ByteArray} (h : nm s = true) : 1 ≤ s.size ∧ s.size ≤ 32 := by
  unfold nm at h
  rw [Bool.and_eq_true, decide_eq_true_iff] at h
  exact h.1
/-- A name's bytes. -/
theorem nm_byte {s : ByteArray} (h : nm s = true) {c : UInt8} (hc : c ∈ s.data.toList) : 48 ≤ c.toNat := by
  unfold nm at h
  rw [Bool.and_eq_true, Bool.and_eq_true] at h
  obtain ⟨j, hj, hjc⟩ := List.getElem_of_mem hc
  have hj' : j < s.size := by rw [sz]; exact hj
  have h1 := okFrom_at s s.size 0 h.2.2 j (by omega) (by omega)
  unfold okB at h1
  have h2 := of_decide_eq_true h1
  have h3 : bt s (j : Int) = (c.toNat : Int) := by
    rw [← bt_at s (j : Int) (by simpa using hj')]
    subst hjc
    rfl
  rw [h3] at h2
  omega
theorem nm_no {s : ByteArray} (h : nm s = true) {c : UInt8} (hc : c.toNat < 48) : c ∉ s.data.toList := fun hm => by
  have := nm_byte h hm
  omega
/-! #### columns and tables -/
def colE (c : S39) (ahead : List S39) : Option Int := if nm c.f0 = true then (if ahead.any (sameName c.f0) = true then some 9 else if c.f1 = 1 ∨ c.f1 = 2 ∨ c.f1 = 3 then (if c.f2 = true ∧ c.f3 = true then some 33 else none) else some 7) else some 30
theorem column_f (c : S39) (ahead : List S39) (h : ahead.length ≤ 9223372036854775807) : table_column.f c.f0 c.f1 c.f2 c.f3 ahead = some (colE c ahead) := by
  unfold table_column.f colE
  rw [name_f _ (by omega), Option.bind_some]
  cases nm c.f0 with
  | false => rfl
  | true =>
    rw [if_pos rfl, if_pos rfl, if_pos h]
    repeat' split
    all_goals rfl
def chkR : List S39 → List S39 → Bool → Option Int
  | _, [], key => if key = true then none else some 8
  | ahead, c :: r, key => if (colE c ahead).isNone = true then chkR (ahead ++ [c]) r (key || c.f2) else some ((colE c ahead).getD 0)
def chk (a : ByteArray) (l : List S39) : Option Int := if nm a = true then (if l.length = 0 then some 1 else if l.length > 16 then some 2 else chkR [] l false) else some 30
theorem rd_at {l ahead r : List S39} {c : S39} (h : l = ahead ++ c :: r) : rd_T39 l (ahead.length : Int) = c := by
  subst h
  unfold rd_T39
  rw [Int.toNat_natCast, List.getD_eq_getElem?_getD, List.getElem?_append_right (Nat.le_refl _), Nat.sub_self]
  rfl
theorem check_l0 (a : ByteArray) (l : List S39) (hl : l.length ≤ 16) : ∀ (rest ahead : List S39) (x : Nat) (k : Nat), l = ahead ++ rest → x ≤ ahead.length → rest.length < k →
    table_Check.l0 k (x : Int) l (l.length : Int) (ahead.length : Int) a l = some (chkR ahead rest (decide (x ≠ 0))) := by
  intro rest
  induction rest with
  | nil =>
    intro ahead x k h hx hk
    obtain ⟨k, rfl⟩ : ∃ q, k = q + 1 := ⟨k - 1, by omega⟩
    rw [List.append_nil] at h
    subst h
    simp only [table_Check.l0]
    rw [if_neg (by omega)]
    unfold chkR
    by_cases h0 : x = 0
    · subst h0; rfl
    · rw [if_neg (by omega), if_pos (decide_eq_true h0)]
  | cons c r ih =>
    intro ahead x k h hx hk
    obtain ⟨k, rfl⟩ : ∃ q, k = q + 1 := ⟨k - 1, by omega⟩
    have hlen : l.length = ahead.length + (r.length + 1) := by rw [h]; simp
    have hc := rd_at h
    simp only [table_Check.l0]
    rw [if_pos (by omega), if_pos (by omega), if_pos (by omega), if_pos (by omega), hc, Int.toNat_natCast, show l.take ahead.length = ahead by rw [h, List.take_left], column_f c ahead (by omega), Option.bind_some]
    have e : chkR ahead (c :: r) (decide (x ≠ 0)) = if (colE c ahead).isNone = true then chkR (ahead ++ [c]) r (decide (x ≠ 0) || c.f2) else some ((colE c ahead).getD 0) := rfl
    rw [e]
    by_cases hn : (colE c ahead).isNone = true
    · rw [if_pos hn, if_pos hn, step64 ahead.length (by omega)]
      have hl' : (ahead ++ [c]).length = ahead.length + 1 := by simp
      cases hf : c.f2 with
      | true =>
        have hq := ih (ahead ++ [c]) (x + 1) k (by rw [h]; simp) (by omega) (by simp only [List.length_cons] at hk; omega)
        rw [hl', show decide (x + 1 ≠ 0) = true from decide_eq_true (by omega)] at hq
        rw [if_pos rfl, step64 x (by omega), Bool.or_true]
        exact hq
      | false =>
        have hq := ih (ahead ++ [c]) x k (by rw [h]; simp) (by omega) (by simp only [List.length_cons] at hk; omega)
        rw [hl'] at hq
        rw [if_neg (by decide), Bool.or_false]
        exact hq
    · rw [if_neg hn, if_neg hn]
theorem check_f (k : Nat) (hk : 40 ≤ k) (a : ByteArray) (l : List S39) : table_Check.f k a l = some (chk a l) := by
  unfold table_Check.f chk
  rw [name_f k hk, Option.bind_some]
  cases nm a with
  | false => rfl
  | true =>
    rw [if_pos rfl, if_pos rfl]
    by_cases h0 : l.length = 0
    · rw [if_pos (by omega), if_pos h0]
    · rw [if_neg (by omega), if_neg h0]
      by_cases h1 : l.length > 16
      · rw [if_pos (by omega), if_pos h1]
      · rw [if_neg (by omega), if_neg h1]
        exact check_l0 a l (by omega) l [] 0 k rfl (Nat.le_refl _) (by omega)
/-- A column that may be. -/
def good (c : S39) : Prop := nm c.f0 = true ∧ (c.f1 = 1 ∨ c.f1 = 2 ∨ c.f1 = 3) ∧ ¬ (c.f2 = true ∧ c.f3 = true)
theorem colE_none {c : S39} {ahead : List S39} (h : (colE c ahead).isNone = true) : good c := by
  unfold colE at h
  split at h
  · rename_i h1
    split at h
    · cases h
    · split at h
      · rename_i h3
        split at h
        · cases h
        · rename_i h4
          exact ⟨h1, h3, h4⟩
      · cases h
  · cases h
theorem chkR_good : ∀ (rest ahead : List S39) (key : Bool), chkR ahead rest key = none → ∀ c ∈ rest, good c := by
  intro rest
  induction rest with
  | nil => intro _ _ _ c h; cases h
  | cons c r ih =>
    intro ahead key h d hd
    unfold chkR at h
    split at h
    · rename_i h1
      rcases List.mem_cons.1 hd with rfl | hd
      · exact colE_none h1
      · exact ih _ _ h d hd
    · cases h
theorem chk_good {a : ByteArray} {l : List S39} (h : chk a l = none) : nm a = true ∧ 1 ≤ l.length ∧ l.length ≤ 16 ∧ ∀ c ∈ l, good c := by
  unfold chk at h
  split at h
  · rename_i h1
    split at h
    · cases h
    · split at h
      · cases h
      · exact ⟨h1, by omega, by omega, chkR_good _ _ _ h⟩
  · cases h
/-! #### texts -/
def kindB (n : Int) : ByteArray := (value_Kind.f n).getD ByteArray.empty
theorem kind_f (n : Int) : value_Kind.f n = some (kindB n) := by
  unfold kindB value_Kind.f
  repeat' split
  all_goals rfl
theorem kindB_size (n : Int) : (kindB n).size ≤ 4 := by
  unfold kindB value_Kind.f
  repeat' split
  all_goals decide
def partB (c : S39) : ByteArray := if c.f2 = true then ((c.f0 ++ (⟨#[32]⟩ : ByteArray)) ++ kindB c.f1) ++ (⟨#[32, 75, 69, 89]⟩ : ByteArray) else if c.f3 = true then ((c.f0 ++ (⟨#[32]⟩ : ByteArray)) ++ kindB c.f1) ++ (⟨#[32, 78, 85, 76, 76]⟩ : ByteArray) else (c.f0 ++ (⟨#[32]⟩ : ByteArray)) ++ kindB c.f1
def colsB (l : List S39) : ByteArray := ⟨(Lib.join ((l.map partB).map (·.data.toList)) (⟨#[44, 32]⟩ : ByteArray).data.toList).toArray⟩
/-- A table's text. -/
def textB (a : ByteArray) (l : List S39) : ByteArray := ((((⟨#[84, 65, 66, 76, 69, 32]⟩ : ByteArray) ++ a) ++ (⟨#[32, 40]⟩ : ByteArray)) ++ colsB l) ++ (⟨#[41]⟩ : ByteArray)
theorem sz1 : (⟨#[32]⟩ : ByteArray).size = 1 := rfl
theorem sz2 : (⟨#[44, 32]⟩ : ByteArray).size = 2 := rfl
theorem sz2' : (⟨#[32, 40]⟩ : ByteArray).size = 2 := rfl
theorem sz1' : (⟨#[41]⟩ : ByteArray).size = 1 := rfl
theorem sz4 : (⟨#[32, 75, 69, 89]⟩ : ByteArray).size = 4 := rfl
theorem sz5 : (⟨#[32, 78, 85, 76, 76]⟩ : ByteArray).size = 5 := rfl
theorem sz6 : (⟨#[84, 65, 66, 76, 69, 32]⟩ : ByteArray).size = 6 := rfl
theorem partB_size {c : S39} (h : c.f0.size ≤ 32) : (partB c).size ≤ 50 := by
  have hk := kindB_size c.f1
  unfold partB
  repeat' split
  all_goals (simp only [ByteArray.size_append, sz1, sz4, sz5]; omega)
theorem join_le (sep : List UInt8) (hs : sep.length = 2) : ∀ (ps : List (List UInt8)), (∀ p ∈ ps, p.length ≤ 50) → (Lib.join ps sep).length ≤ 52 * ps.length := by
  intro ps
  induction ps with
  | nil => intro _; exact Nat.le_refl _
  | cons p r ih =>
    intro h
    have hp := h p (List.mem_cons_self ..)
    cases r with
    | nil => rw [Lib.join_one]; simp; omega
    | cons q r =>
      have := ih (fun x hx => h x (List.mem_cons_of_mem _ hx))
      rw [TabS.join_two]
      simp only [List.length_append, List.length_cons] at *
      omega
theorem colsB_size {l : List S39} (hl : l.length ≤ 16) (h : ∀ c ∈ l, c.f0.size ≤ 32) : (Lib.join ((l.map partB).map (·.data.toList)) (⟨#[44, 32]⟩ : ByteArray).data.toList).length ≤ 832 := by
  have h1 := join_le (⟨#[44, 32]⟩ : ByteArray).data.toList rfl ((l.map partB).map (·.data.toList)) (by
    intro p hp
    obtain ⟨q, hq, rfl⟩ := List.mem_map.1 hp
    obtain ⟨c, hc, rfl⟩ := List.mem_map.1 hq
    rw [← sz]
    exact partB_size (h c hc))
  rw [List.length_map, List.length_map] at h1
  omega
theorem text_l0 (a : ByteArray) (ha : a.size ≤ 32) (l : List S39) (hl : l.length ≤ 16) (hn : ∀ c ∈ l, c.f0.size ≤ 32) : ∀ (rest ahead : List S39) (k : Nat), l = ahead ++ rest → rest.length < k →
    table_Text.l0 k (ahead.map partB) l (l.length : Int) (ahead.length : Int) a l = some (textB a l, none) := by
  intro rest
  induction rest with
  | nil =>
    intro ahead k h hk
    obtain ⟨k, rfl⟩ : ∃ q, k = q + 1 := ⟨k - 1, by omega⟩
    rw [List.append_nil] at h
    subst h
    have hsz := colsB_size hl hn
    have hsz2 : (colsB l).size = (Lib.join ((l.map partB).map (·.data.toList)) (⟨#[44, 32]⟩ : ByteArray).data.toList).length := by rw [sz]; rfl
    have hj : strings_Join.f (l.map partB) (⟨#[44, 32]⟩ : ByteArray) = some (colsB l) := by
      unfold strings_Join.f colsB
      exact if_pos ⟨by omega, by rw [List.length_map]; omega⟩
    simp only [table_Text.l0]
    rw [if_neg (by omega), if_pos (by omega), if_pos (by simp only [ByteArray.size_append, sz6]; omega), hj, Option.bind_some,
      if_pos (by simp only [ByteArray.size_append, sz6, sz2']; omega), if_pos (by simp only [ByteArray.size_append, sz6, sz2']; omega)]
    rfl
  | cons c r ih =>
    intro ahead k h hk
    obtain ⟨k, rfl⟩ : ∃ q, k = q + 1 := ⟨k - 1, by omega⟩
    have hlen : l.length = ahead.length + (r.length + 1) := by rw [h]; simp
    have hc := rd_at h
    have hcs := hn c (by rw [h]; simp)
    have hks := kindB_size c.f1
    have hq := ih (ahead ++ [c]) k (by rw [h]; simp) (by simp only [List.length_cons] at hk; omega)
    rw [List.map_append, List.map_cons, List.map_nil, show (ahead ++ [c]).length = ahead.length + 1 by simp] at hq
    simp only [table_Text.l0]
    rw [if_pos (by omega), if_pos (by omega), if_pos (by omega), hc, if_pos (by omega), kind_f, Option.bind_some, if_pos (by simp only [ByteArray.size_append, sz1]; omega), step64 _ (by omega)]
    cases hf : c.f2 with
    | true =>
      rw [if_pos rfl, if_pos (by simp only [ByteArray.size_append, sz1]; omega), if_pos (by rw [List.length_map]; omega)]
      unfold partB at hq
      rw [if_pos hf] at hq
      exact hq
    | false =>
      rw [if_neg (by decide)]
      unfold partB at hq
      rw [if_neg (by rw [hf]; decide)] at hq
      cases hg : c.f3 with
      | true =>
        rw [if_pos rfl, if_pos (by simp only [ByteArray.size_append, sz1]; omega), if_pos (by rw [List.length_map]; omega)]
        rw [if_pos hg] at hq
        exact hq
      | false =>
        rw [if_neg (by decide), if_pos (by rw [List.length_map]; omega)]
        rw [if_neg (by rw [hg]; decide)] at hq
        exact hq
theorem text_f (k : Nat) (hk : 40 ≤ k) (a : ByteArray) (l : List S39) : table_Text.f k a l = some (if (chk a l).isNone = true then (textB a l, none) else ((⟨#[]⟩ : ByteArray), some ((chk a l).getD 0))) := by
  unfold table_Text.f
  rw [check_f k hk, Option.bind_some]
  by_cases h : (chk a l).isNone = true
  · rw [if_pos h, if_pos h]
    obtain ⟨h1, h2, h3, h4⟩ := chk_good (Option.isNone_iff_eq_none.1 h)
    exact text_l0 a (nm_size h1).2 l h3 (fun c hc => (nm_size (h4 c hc).1).2) l [] k rfl (by omega)
  · rw [if_neg h, if_neg h]
end TabL
end Go.Proofs.YtkcbgnhgjlbmlaaDoor.Pure
/- Tables, plain: what the program's Parse answers: the table whose text it is, or the error. -/
namespace Go.Proofs.YtkcbgnhgjlbmlaaDoor.Pure
open Go.RowKit Go.Proofs.YtkcbgnhgjlbmlaaDoor.XTc Go.Proofs.YtkcbgnhgjlbmlaaDoorW.PrintWords Go.Proofs.YtkcbgnhgjlbmlaaDoorW.PrintLast Go.Proofs.YtkcbgnhgjlbmlaaDoorW.PrintMore
set_option linter.unusedVariables false
set_option linter.unusedSimpArgs false
namespace TabL
open TabS (ext app sz from_ upto_)
/-! #### what is cut -/
theorem cutPrefix_f (s p : ByteArray) (hs : s.size < 9223372036854775000) : ∃ r b, strings_CutPrefix.f s p = some (r, b) ∧ r.size ≤ s.size ∧ ∀ t, s.data.toList = p.data.toList ++ t → r.data.toList = t := by
  unfold strings_CutPrefix.f stringslite_CutPrefix.f stringslite_HasPrefix.f
  by_cases h : (s.size : Int) ≥ (p.size : Int)
  · rw [if_pos h, if_pos (by omega), if_pos (by omega), Option.bind_some]
    cases he : (s.extract 0 ((p.size : Int) : Int).toNat).toList == p.toList with
    | true =>
      rw [if_pos rfl, if_pos (by omega), if_pos (by omega), Option.bind_some]
      refine ⟨_, _, rfl, by rw [ByteArray.size_extract]; omega, fun t ht => ?_⟩
      rw [from_ _ _ _ rfl, Int.toNat_natCast, ht, List.drop_left' (by rw [sz])]
    | false =>
      rw [if_neg (by decide), Option.bind_some]
      refine ⟨_, _, rfl, Nat.le_refl _, fun t ht => ?_⟩
      rw [tl, tl, upto_, Int.toNat_natCast, ht, List.take_left' (by rw [sz]), beq_self_eq_true] at he
      cases he
  · rw [if_neg h, Option.bind_some, if_neg (by decide), Option.bind_some]
    refine ⟨_, _, rfl, Nat.le_refl _, fun t ht => ?_⟩
    exfalso
    have := congrArg List.length ht
    rw [List.length_append, ← sz, ← sz] at this
    omega
theorem trimSuffix_f (s p : ByteArray) (hs : s.size < 9223372036854775000) : ∃ r, strings_TrimSuffix.f s p = some r ∧ r.size ≤ s.size ∧ ∀ t, s.data.toList = t ++ p.data.toList → r.data.toList = t := by
  unfold strings_TrimSuffix.f stringslite_TrimSuffix.f stringslite_HasSuffix.f
  by_cases h : (s.size : Int) ≥ (p.size : Int)
  · have e : wrap64 ((s.size : Int) - (p.size : Int)) = ((s.size - p.size : Nat) : Int) := by rw [wrap64_small _ (by omega) (by omega)]; omega
    rw [if_pos h, e, if_pos (by omega), if_pos (by omega), Option.bind_some, Int.toNat_natCast]
    cases he : (s.extract (s.size - p.size) s.size).toList == p.toList with
    | true =>
      rw [if_pos rfl, if_pos (by omega), if_pos (by omega), Option.bind_some]
      refine ⟨_, rfl, by rw [ByteArray.size_extract]; omega, fun t ht => ?_⟩
      have hl := congrArg List.length ht
      rw [List.length_append, ← sz, ← sz] at hl
      rw [upto_, ht, List.take_left' (by omega)]
    | false =>
      rw [if_neg (by decide), Option.bind_some]
      refine ⟨_, rfl, Nat.le_refl _, fun t ht => ?_⟩
      have hl := congrArg List.length ht
      rw [List.length_append, ← sz, ← sz] at hl
      rw [tl, tl, from_ _ _ _ rfl, ht, List.drop_left' (by omega), beq_self_eq_true] at he
      cases he
  · rw [if_neg h, Option.bind_some, if_neg (by decide), Option.bind_some]
    refine ⟨_, rfl, Nat.le_refl _, fun t ht => ?_⟩
    exfalso
    have hl := congrArg List.length ht
    rw [List.length_append, ← sz, ← sz] at hl
    omega
theorem cut_f (s p : ByteArray) (hs : s.size < 4294967281) (hp : 1 ≤ p.size) : ∃ x y b, strings_Cut.f s p = some (x, y, b) ∧ x.size ≤ s.size ∧ y.size ≤ s.size ∧
    ∀ c t u v, p.data.toList = c :: t → c ∉ u → s.data.toList = u ++ (c :: t ++ v) → x.data.toList = u ∧ y.data.toList = v := by
  unfold strings_Cut.f stringslite_Cut.f stringslite_Index.f
  rw [if_pos hs, Option.bind_some]
  have hi := TabS.index_le s.data.toList p.data.toList
  by_cases h : Lib.index s.data.toList p.data.toList ≥ 0
  · have hr := Lib.index_room s.data.toList p.data.toList h
    rw [← sz, ← sz] at hr
    obtain ⟨i, hi2⟩ : ∃ i : Nat, Lib.index s.data.toList p.data.toList = i := ⟨(Lib.index s.data.toList p.data.toList).toNat, by omega⟩
    rw [hi2] at hr ⊢
    rw [wrap64_small _ (by omega) (by omega), if_pos (by omega), if_pos (by omega), if_pos (by omega), if_pos (by omega), if_pos (by omega), Option.bind_some]
    refine ⟨_, _, _, rfl, by rw [ByteArray.size_extract]; omega, by rw [ByteArray.size_extract]; omega, fun c t u v h1 h2 h3 => ?_⟩
    have h4 : Lib.index s.data.toList p.data.toList = u.length := by rw [h3, h1]; exact TabS.index_at h2
    have h5 : i = u.length := by omega
    subst h5
    refine ⟨?_, ?_⟩
    · rw [upto_, Int.toNat_natCast, h3, List.take_left]
    · rw [from_ _ _ _ rfl, h3, ← List.append_assoc, List.drop_left']
      rw [List.length_append, ← h1, ← sz]
      omega
  · rw [if_neg h, Option.bind_some]
    refine ⟨_, _, _, rfl, Nat.le_refl _, Nat.zero_le _, fun c t u v h1 h2 h3 => ?_⟩
    exfalso
    have h4 : Lib.index s.data.toList p.data.toList = u.length := by rw [h3, h1]; exact TabS.index_at h2
    omega
/-! #### a column's words -/
theorem rd_nat {α : Type} (d : α) (l : List α) (i : Nat) : rdOf d l (i : Int) = l.getD i d := rfl
def kindW (w : List ByteArray) : Nat → Int → Int
  | 0, q => q
  | m + 1, q => if ((w.length : Int) > 1) ∧ (kindB (3 - (m : Int))).toList = (rdOf ByteArray.empty w 1).toList then kindW w m (3 - (m : Int)) else kindW w m q
def colW (w : List ByteArray) : S39 := if (w.length : Int) > 2 then ⟨rdOf ByteArray.empty w 0, kindW w 3 0, ((rdOf ByteArray.empty w 2).toList == ([75, 69, 89] : List UInt8)), ((rdOf ByteArray.empty w 2).toList == ([78, 85, 76, 76] : List UInt8))⟩ else ⟨rdOf ByteArray.empty w 0, kindW w 3 0, false, false⟩
theorem parse_l1 (s : ByteArray) (w parts : List ByteArray) (n i : Int) (a : ByteArray) (cols : List S39) (w0 : ByteArray) (hc : cols.length < 4398046511104) : ∀ (m : Nat) (k : Nat) (q : Int), m ≤ 3 →
    table_Parse.l1 (k + 1 + m) s w (4 - (m : Int)) parts n i a cols w0 q false false = table_Parse.l0 k s parts n (wrap64 (i + 1)) a (cols ++ [if (w.length : Int) > 2 then ⟨w0, kindW w m q, ((rdOf ByteArray.empty w 2).toList == ([75, 69, 89] : List UInt8)), ((rdOf ByteArray.empty w 2).toList == ([78, 85, 76, 76] : List UInt8))⟩ else ⟨w0, kindW w m q, false, false⟩]) := by
  intro m
  induction m with
  | zero =>
    intro k q _
    rw [show k + 1 + 0 = k + 1 from rfl]
    simp only [table_Parse.l1]
    rw [if_neg (by omega)]
    by_cases h : (w.length : Int) > 2
    · rw [if_pos h, if_pos (by omega), if_pos hc, if_pos h]
      rfl
    · rw [if_neg h, if_pos hc, if_neg h]
      rfl
  | succ m ih =>
    intro k q hm
    have e : (4 - ((m + 1 : Nat) : Int)) = 3 - (m : Int) := by omega
    have e2 : wrap64 (3 - (m : Int) + 1) = 4 - (m : Int) := by rw [wrap64_small _ (by omega) (by omega)]; omega
    rw [e, ← Nat.add_assoc]
    simp only [table_Parse.l1]
    rw [if_pos (by omega), e2]
    by_cases h : (w.length : Int) > 1
    · rw [if_pos h, kind_f, Option.bind_some, if_pos (by omega)]
      by_cases h2 : (kindB (3 - (m : Int))).toList = (rdOf ByteArray.empty w 1).toList
      · have e4 : kindW w (m + 1) q = kindW w m (3 - (m : Int)) := if_pos ⟨h, h2⟩
        rw [if_pos h2, e4]
        exact ih k _ (by omega)
      · have e4 : kindW w (m + 1) q = kindW w m q := if_neg (fun z => h2 z.2)
        rw [if_neg h2, e4]
        exact ih k _ (by omega)
    · have e4 : kindW w (m + 1) q = kindW w m q := if_neg (fun z => h z.1)
      rw [if_neg h, e4]
      exact ih k _ (by omega)
def colP (p : ByteArray) : S39 := colW (Lib.splitB (⟨#[32]⟩ : ByteArray) 0 (Lib.countB p (⟨#[32]⟩ : ByteArray)) p)
theorem split_f (s p : ByteArray) (hs : s.size < 4294967281) (hp : 1 ≤ p.size) : strings_Split.f s p = some (Lib.splitB p 0 (Lib.countB s p) s) := if_pos ⟨hs, hp⟩
def fin (s : ByteArray) (a : ByteArray) (l : List S39) : ByteArray × List S39 × Option Int := if chk a l = none ∧ textB a l = s then (a, l, none) else ((⟨#[]⟩ : ByteArray), ([] : List (S39)), some 3)
theorem parse_l0 (s : ByteArray) (a : ByteArray) (parts : List ByteArray) (hp : parts.length < 2199023255552) (hsz : ∀ p ∈ parts, p.size < 4294967281) : ∀ (rest done : List ByteArray) (cols : List S39) (k : Nat), parts = done ++ rest → cols.length = done.length → 40 ≤ k →
    table_Parse.l0 (k + 1 + 5 * rest.length) s parts (parts.length : Int) (done.length : Int) a cols = some (fin s a (cols ++ rest.map colP)) := by
  intro rest
  induction rest with
  | nil =>
    intro done cols k h hc hk
    rw [List.append_nil] at h
    subst h
    rw [show k + 1 + 5 * ([] : List ByteArray).length = k + 1 from rfl]
    simp only [table_Parse.l0, List.map_nil, List.append_nil]
    rw [if_neg (by omega), text_f k hk, Option.bind_some]
    unfold fin
    by_cases h1 : chk a cols = none
    · rw [h1, if_pos (show (none : Option Int).isNone = true from rfl), if_pos (show (none : Option Int).isNone = true from rfl)]
      by_cases h2 : textB a cols = s
      · rw [if_pos (by rw [h2]), if_pos ⟨rfl, h2⟩]
      · rw [if_neg (fun z => h2 (ext (by rw [tl, tl] at z; exact z))), if_neg (fun z => h2 z.2)]
    · have h1' : ¬ (chk a cols).isNone = true := fun z => h1 (Option.isNone_iff_eq_none.1 z)
      rw [if_neg h1', if_neg (by simp), if_neg (fun z => h1 z.1)]
  | cons p r ih =>
    intro done cols k h hc hk
    have hlen : parts.length = done.length + (r.length + 1) := by rw [h]; simp
    have hmem : p ∈ parts := by rw [h]; simp
    have hrd : rdOf ByteArray.empty parts (done.length : Int) = p := by
      rw [rd_nat, h, List.getD_eq_getElem?_getD, List.getElem?_append_right (Nat.le_refl _), Nat.sub_self]
      rfl
    have hw := TabS.splitB_len (⟨#[32]⟩ : ByteArray) p
    have e : k + 1 + 5 * (p :: r).length = (k + 1 + 5 * r.length + 1 + 3) + 1 := by simp only [List.length_cons]; omega
    rw [e]
    simp only [table_Parse.l0]
    rw [if_pos (by omega), if_pos (by omega), if_pos (by omega), hrd, split_f p _ (hsz p hmem) (by decide), Option.bind_some, if_pos (by omega)]
    have h1 := parse_l1 s (Lib.splitB (⟨#[32]⟩ : ByteArray) 0 (Lib.countB p (⟨#[32]⟩ : ByteArray)) p) parts (parts.length : Int) (done.length : Int) a cols (rdOf ByteArray.empty (Lib.splitB (⟨#[32]⟩ : ByteArray) 0 (Lib.countB p (⟨#[32]⟩ : ByteArray)) p) 0) (by omega) 3 (k + 1 + 5 * r.length) 0 (Nat.le_refl _)
    refine Eq.trans h1 ?_
    have h2 := ih (done ++ [p]) (cols ++ [colP p]) k (by rw [h]; simp) (by simp; omega) hk
    rw [step64 _ (by omega), show ((done.length + 1 : Nat) : Int) = (((done ++ [p]).length : Nat) : Int) by simp]
    refine Eq.trans ?_ (h2.trans ?_)
    · rfl
    · rw [List.map_cons, List.append_assoc]
      rfl
/-! #### a table's text is read as it -/
theorem kind_word {n : Int} (h : n = 1 ∨ n = 2 ∨ n = 3) : (32 : UInt8) ∉ (kindB n).data.toList ∧ (44 : UInt8) ∉ (kindB n).data.toList ∧ (if (kindB 1).toList = (kindB n).toList then (if (kindB 2).toList = (kindB n).toList then (if (kindB 3).toList = (kindB n).toList then (3 : Int) else 2) else (if (kindB 3).toList = (kindB n).toList then 3 else 1)) else (if (kindB 2).toList = (kindB n).toList then (if (kindB 3).toList = (kindB n).toList then 3 else 2) else (if (kindB 3).toList = (kindB n).toList then 3 else 0))) = n := by
  rcases h with rfl | rfl | rfl <;> decide +kernel
def flagW (c : S39) : List (List UInt8) := if c.f2 = true then [[75, 69, 89]] else if c.f3 = true then [[78, 85, 76, 76]] else []
theorem part_words (c : S39) : (partB c).data.toList = Lib.join (c.f0.data.toList :: (kindB c.f1).data.toList :: flagW c) [32] := by
  unfold partB flagW
  repeat' split
  all_goals simp [app, TabS.join_two, Lib.join_one, List.append_assoc]
theorem part_no {c : S39} (h : good c) : (44 : UInt8) ∉ (partB c).data.toList := by
  obtain ⟨h1, h2, _⟩ := h
  have hk := (kind_word h2).2.1
  have hn := nm_no h1 (c := 44) (by decide)
  unfold partB
  repeat' split
  all_goals (simp only [app, List.mem_append]; rintro hq; simp [hk, hn] at hq)
theorem words_of {c : S39} (h : good c) : (Lib.splitB (⟨#[32]⟩ : ByteArray) 0 (Lib.countB (partB c) (⟨#[32]⟩ : ByteArray)) (partB c)).map (·.data.toList) = c.f0.data.toList :: (kindB c.f1).data.toList :: flagW c := by
  obtain ⟨h1, h2, _⟩ := h
  refine TabS.splitB_join _ _ 32 [] _ rfl (by simp) ?_ (part_words c)
  intro p hp
  rcases List.mem_cons.1 hp with rfl | hp
  · exact nm_no h1 (by decide)
  rcases List.mem_cons.1 hp with rfl | hp
  · exact (kind_word h2).1
  · unfold flagW at hp
    split at hp
    · simp at hp; subst hp; decide
    · split at hp
      · simp at hp; subst hp; decide
      · cases hp
theorem map_get {w : List ByteArray} {ps : List (List UInt8)} (h : w.map (·.data.toList) = ps) (i : Nat) (p : List UInt8) (hp : ps[i]? = some p) : (rdOf ByteArray.empty w (i : Int)).data.toList = p := by
  subst h
  rw [List.getElem?_map] at hp
  obtain ⟨x, hx, rfl⟩ := Option.map_eq_some_iff.1 hp
  rw [rd_nat, List.getD_eq_getElem?_getD, hx]
  rfl
theorem kindW_eq {w : List ByteArray} {n : Int} (hl : (w.length : Int) > 1) (hn : n = 1 ∨ n = 2 ∨ n = 3) (hw : (rdOf ByteArray.empty w 1).data.toList = (kindB n).data.toList) : kindW w 3 0 = n := by
  have h := (kind_word hn).2.2
  simp only [kindW]
  rw [tl (rdOf ByteArray.empty w 1), hw, ← tl]
  have e1 : (3 : Int) - ((2 : Nat) : Int) = 1 := by decide
  have e2 : (3 : Int) - ((1 : Nat) : Int) = 2 := by decide
  have e3 : (3 : Int) - ((0 : Nat) : Int) = 3 := by decide
  rw [e1, e2, e3]
  simp only [hl, true_and]
  exact h
theorem colP_part {c : S39} (h : good c) : colP (partB c) = c := by
  have hw := words_of h
  obtain ⟨h1, h2, h3⟩ := h
  unfold colP
  generalize Lib.splitB (⟨#[32]⟩ : ByteArray) 0 (Lib.countB (partB c) (⟨#[32]⟩ : ByteArray)) (partB c) = w at hw
  have hlen := congrArg List.length hw
  rw [List.length_map] at hlen
  simp only [List.length_cons] at hlen
  have w0 : rdOf ByteArray.empty w 0 = c.f0 := ext (map_get hw 0 _ rfl)
  have w1 := kindW_eq (by omega) h2 (map_get hw 1 _ rfl)
  obtain ⟨f0, f1, f2, f3⟩ := c
  unfold colW
  rw [w0, w1]
  unfold flagW at hw hlen
  cases f2 with
  | true =>
    rw [if_pos rfl] at hw hlen
    have hf : f3 = false := by cases f3 with
      | true => exact absurd ⟨rfl, rfl⟩ h3
      | false => rfl
    subst hf
    have w2 := map_get hw 2 _ rfl
    rw [if_pos (by simp at hlen; omega), tl, show rdOf ByteArray.empty w 2 = rdOf ByteArray.empty w ((2 : Nat) : Int) from rfl, w2]
    rfl
  | false =>
    rw [if_neg (by simp)] at hw hlen
    cases f3 with
    | true =>
      rw [if_pos rfl] at hw hlen
      have w2 := map_get hw 2 _ rfl
      rw [if_pos (by simp at hlen; omega), tl, show rdOf ByteArray.empty w 2 = rdOf ByteArray.empty w ((2 : Nat) : Int) from rfl, w2]
      rfl
    | false =>
      rw [if_neg (by simp)] at hw hlen
      rw [if_neg (by simp at hlen; omega)]
theorem cols_parts {l : List S39} (h0 : 1 ≤ l.length) (h : ∀ c ∈ l, good c) (r : ByteArray) (hr : r.data.toList = (colsB l).data.toList) : (Lib.splitB (⟨#[44, 32]⟩ : ByteArray) 0 (Lib.countB r (⟨#[44, 32]⟩ : ByteArray)) r).map colP = l := by
  have h1 := TabS.splitB_join (⟨#[44, 32]⟩ : ByteArray) r 44 [32] ((l.map partB).map (·.data.toList)) rfl (by
      intro e
      have := congrArg List.length e
      simp at this
      subst this
      simp at h0) (by
      intro p hp
      obtain ⟨q, hq, rfl⟩ := List.mem_map.1 hp
      obtain ⟨c, hc, rfl⟩ := List.mem_map.1 hq
      exact part_no (h c hc)) (by rw [hr]; rfl)
  have h2 : Lib.splitB (⟨#[44, 32]⟩ : ByteArray) 0 (Lib.countB r (⟨#[44, 32]⟩ : ByteArray)) r = l.map partB := by
    apply List.map_inj_right (f := fun b : ByteArray => b.data.toList) (fun x y hxy => ext hxy) |>.1
    exact h1
  rw [h2, List.map_map]
  conv => rhs; rw [← List.map_id l]
  exact List.map_congr_left fun c hc => colP_part (h c hc)
/-- What the program reads of a text: the one table whose text it is, or the error. -/
theorem parse_f (s : ByteArray) (hs : s.size ≤ 1048576) : ∃ K, ∃ r, (∀ k, K ≤ k → table_Parse.f k s = some r) ∧
    ((∃ a l, r = (a, l, none) ∧ chk a l = none ∧ textB a l = s) ∨ (r = ((⟨#[]⟩ : ByteArray), ([] : List (S39)), some 3) ∧ ∀ a l, chk a l = none → textB a l ≠ s)) ∧
    (∀ a l, chk a l = none → textB a l = s → r = (a, l, none)) := by
  obtain ⟨r1, b1, e1, z1, t1⟩ := cutPrefix_f s (⟨#[84, 65, 66, 76, 69, 32]⟩ : ByteArray) (by omega)
  obtain ⟨a, r2, b2, e2, z2, z2', t2⟩ := cut_f r1 (⟨#[32, 40]⟩ : ByteArray) (by omega) (by decide)
  obtain ⟨r3, e3, z3, t3⟩ := trimSuffix_f r2 (⟨#[41]⟩ : ByteArray) (by omega)
  have e4 := split_f r3 (⟨#[44, 32]⟩ : ByteArray) (by omega) (by decide)
  have hlen := TabS.splitB_le_size (⟨#[44, 32]⟩ : ByteArray) r3 (by decide)
  have hall := TabS.splitB_le (⟨#[44, 32]⟩ : ByteArray) (Lib.countB r3 (⟨#[44, 32]⟩ : ByteArray)) r3
  have hcols : ∀ a' l', chk a' l' = none → textB a' l' = s → a = a' ∧ (Lib.splitB (⟨#[44, 32]⟩ : ByteArray) 0 (Lib.countB r3 (⟨#[44, 32]⟩ : ByteArray)) r3).map colP = l' := by
    intro a' l' hk ht
    obtain ⟨g1, g2, g3, g4⟩ := chk_good hk
    have y1 := t1 (a'.data.toList ++ ((32 :: [40]) ++ ((colsB l').data.toList ++ [41]))) (by
      rw [← ht]
      simp [textB, app, List.append_assoc])
    obtain ⟨y2, y3⟩ := t2 32 [40] _ _ rfl (nm_no g1 (by decide)) y1
    have y4 := t3 _ y3
    exact ⟨ext y2, cols_parts g2 g4 r3 y4⟩
  generalize hP : Lib.splitB (⟨#[44, 32]⟩ : ByteArray) 0 (Lib.countB r3 (⟨#[44, 32]⟩ : ByteArray)) r3 = parts at *
  have hf : ∀ k, 40 + 1 + 5 * parts.length ≤ k → table_Parse.f k s = some (fin s a (parts.map colP)) := by
    intro k hk
    unfold table_Parse.f
    rw [e1, Option.bind_some, e2, Option.bind_some, e3, Option.bind_some, e4, Option.bind_some]
    have h0 := parse_l0 s a parts (by omega) (fun p hp => by have := hall p hp; omega) parts [] [] (k - 1 - 5 * parts.length) rfl rfl (by omega)
    rw [show k - 1 - 5 * parts.length + 1 + 5 * parts.length = k by omega] at h0
    exact h0
  refine ⟨_, _, hf, ?_, ?_⟩
  · by_cases h : chk a (parts.map colP) = none ∧ textB a (parts.map colP) = s
    · refine .inl ⟨a, parts.map colP, if_pos h, h.1, h.2⟩
    · refine .inr ⟨if_neg h, fun a' l' h1 h2 => h ?_⟩
      obtain ⟨rfl, rfl⟩ := hcols a' l' h1 h2
      exact ⟨h1, h2⟩
  · intro a' l' h1 h2
    obtain ⟨rfl, rfl⟩ := hcols a' l' h1 h2
    exact if_pos ⟨h1, h2⟩
theorem text_ok (k : Nat) (hk : 40 ≤ k) {a : ByteArray} {l : List S39} (h : chk a l = none) : table_Text.f k a l = some (textB a l, none) := by
  rw [text_f k hk, if_pos (Option.isNone_iff_eq_none.2 h)]
theorem nn {α : Type} (x y : α) : (if (none : Option Int).isNone = true then x else y) = x := if_pos rfl
theorem ns {α : Type} (e : Int) (x y : α) : (if (some e).isNone = true then x else y) = y := if_neg (by simp)
theorem bt_ {α : Type} (x y : α) : (if true = true then x else y) = x := if_pos rfl
/-! #### the same -/
theorem same_l0 (a b : ByteArray) (l : List S39) (hl : l.length < 9223372036854770000) : ∀ d k i : Nat, i + d = l.length → d < k → barbicanref15_Same.l0 k (i : Int) a l b l = some true := by
  intro d
  induction d with
  | zero =>
    intro k i hi hk
    obtain ⟨k, rfl⟩ : ∃ q, k = q + 1 := ⟨k - 1, by omega⟩
    simp only [barbicanref15_Same.l0]
    rw [if_neg (by omega)]
  | succ d ih =>
    intro k i hi hk
    obtain ⟨k, rfl⟩ : ∃ q, k = q + 1 := ⟨k - 1, by omega⟩
    have hr := ih k (i + 1) (by omega) (by omega)
    simp only [barbicanref15_Same.l0]
    rw [if_pos (by omega), if_pos (by omega), if_pos (by omega), step64 i (by omega), hr, if_neg (by simp)]
theorem same_f (k : Nat) (a : ByteArray) (l : List S39) (hl : l.length < 9223372036854770000) (hk : l.length + 5 ≤ k) : barbicanref15_Same.f k a l a l = some true := by
  unfold barbicanref15_Same.f
  obtain ⟨k, rfl⟩ : ∃ q, k = q + 1 := ⟨k - 1, by omega⟩
  rw [if_pos rfl]
  simp only [barbicanref15_Same.j0]
  rw [if_neg (by simp)]
  exact same_l0 a a l hl l.length k 0 (by omega) (by omega)
/-! #### what must come -/
set_option maxRecDepth 20000 in
theorem sure_100 : barbicanlaw15_sure.f 100 = some true := by decide +kernel
theorem sure_f (k : Nat) (hk : 100 ≤ k) : barbicanlaw15_sure.f k = some true := at_rounds (g := fun k => barbicanlaw15_sure.f k) (fun k => barbicanlaw15_sure.mono k) hk sure_100
theorem twin_f (a : ByteArray) (l : List S39) (h : l.length < 4398046511104) : barbicanlaw15_twin.f a l = some (a, l) := by
  unfold barbicanlaw15_twin.f
  rw [if_pos (by simpa using h)]
  rfl
end TabL
end Go.Proofs.YtkcbgnhgjlbmlaaDoor.Pure
/- Tables, plain: the document's Reserved, Name and Check answer as the program's do (the first part of TabR, for the law TableCatalogs). -/
namespace Go.Proofs.YtkcbgnhgjlbmlaaDoor.Pure
open Go.RowKit Go.Proofs.YtkcbgnhgjlbmlaaDoor.XTc Go.Proofs.YtkcbgnhgjlbmlaaDoorW.PrintWords Go.Proofs.YtkcbgnhgjlbmlaaDoorW.PrintLast Go.Proofs.YtkcbgnhgjlbmlaaDoorW.PrintMore
set_option linter.unusedVariables false
set_option linter.unusedSimpArgs false
namespace TabL
open TabS (ext app sz from_ upto_)
theorem rdn {α : Type} (d : α) (l : List α) (i : Nat) : rdOf d l (i : Int) = l.getD i d := rfl
/-! #### reserved words -/
def wordsB : List ByteArray := (barbicanref15_Words.f).getD []
theorem words_f : barbicanref15_Words.f = some wordsB := rfl
theorem rres_l0 (s : ByteArray) (ws : List ByteArray) (hw : ws.length < 9223372036854770000) : ∀ (rest done : List ByteArray) (k : Nat), ws = done ++ rest → rest.length < k →
    barbicanref15_Reserved.l0 k s ws (done.length : Int) = some (decide (s.data.toList ∈ rest.map (·.data.toList))) := by
  intro rest
  induction rest with
  | nil =>
    intro done k h hk
    obtain ⟨k, rfl⟩ : ∃ q, k = q + 1 := ⟨k - 1, by omega⟩
    rw [List.append_nil] at h
    subst h
    simp only [barbicanref15_Reserved.l0]
    rw [if_neg (by omega)]
    rfl
  | cons p r ih =>
    intro done k h hk
    obtain ⟨k, rfl⟩ : ∃ q, k = q + 1 := ⟨k - 1, by omega⟩
    have hlen : ws.length = done.length + (r.length + 1) := by rw [h]; simp
    have hrd : rdOf ByteArray.empty ws (done.length : Int) = p := by
      rw [rdn, h, List.getD_eq_getElem?_getD, List.getElem?_append_right (Nat.le_refl _), Nat.sub_self]
      rfl
    have hi := ih (done ++ [p]) k (by rw [h]; simp) (by simp only [List.length_cons] at hk; omega)
    rw [show (done ++ [p]).length = done.length + 1 by simp] at hi
    simp only [barbicanref15_Reserved.l0]
    rw [if_pos (by omega), if_pos (by omega), hrd, step64 _ (by omega), hi]
    by_cases he : p.toList = s.toList
    · have : s = p := (ext (by rw [tl, tl] at he; exact he)).symm
      subst this
      rw [if_pos he, decide_eq_true (by rw [List.map_cons]; exact List.mem_cons_self ..)]
    · rw [if_neg he]
      congr 1
      rw [decide_eq_decide, List.map_cons, List.mem_cons]
      constructor
      · exact .inr
      · rintro (hq | hq)
        · exact absurd (by rw [tl, tl]; exact hq.symm) he
        · exact hq
def wordsL : List (List UInt8) := wordsB.map (·.data.toList)
theorem rres_f (k : Nat) (hk : 60 ≤ k) (s : ByteArray) : barbicanref15_Reserved.f k s = some (decide (s.data.toList ∈ wordsL)) := by
  unfold barbicanref15_Reserved.f
  rw [words_f, Option.bind_some]
  have h39 : wordsB.length = 39 := by decide +kernel
  exact rres_l0 s wordsB (by omega) wordsB [] k rfl (by omega)
def bigW : ByteArray := ⟨(([32, 97, 110, 100, 32, 97, 115, 32, 97, 115, 99, 32, 98, 101, 103, 105, 110, 32, 98, 111, 111, 108, 32, 98, 121, 32, 99, 111, 109, 109, 105, 116, 32, 99, 111, 117, 110, 116, 32, 100, 101, 108, 101, 116, 101, 32, 100, 101, 115, 99, 32, 101].append [120, 112, 108, 97, 105, 110, 32, 102, 97, 108, 115, 101, 32, 102, 114, 111, 109, 32, 103, 114, 111, 117, 112, 32, 105, 110, 115, 101, 114, 116, 32, 105, 110, 116, 32, 105, 110, 116, 111, 32, 105, 115, 32, 107, 101, 121, 32, 108, 97, 98, 101, 108, 32]).append ([108, 105, 109, 105, 116, 32, 109, 97, 120, 32, 109, 105, 110, 32, 110, 111, 116, 32, 110, 117, 108, 108, 32, 111, 114, 32, 111, 114, 100, 101, 114, 32, 114, 101, 108, 101, 97, 115, 101, 32, 114, 111, 108, 108, 98, 97, 99, 107, 32, 115, 101, 108].append [101, 99, 116, 32, 115, 101, 116, 32, 115, 117, 109, 32, 116, 97, 98, 108, 101, 32, 116, 101, 120, 116, 32, 116, 114, 117, 101, 32, 117, 112, 100, 97, 116, 101, 32, 118, 97, 108, 117, 101, 115, 32, 118, 105, 101, 119, 32, 119, 104, 101, 114, 101, 32])).toArray⟩
theorem bigW_data : bigW.data.toList = TabS.wtext wordsL := by decide +kernel
theorem words_no : ∀ w ∈ wordsL, (32 : UInt8) ∉ w := by decide +kernel
theorem words_ne : ∀ w ∈ wordsL, w ≠ [] := by decide +kernel
theorem resv_eq (s : ByteArray) (h : s.size < 9223372036854700000) : table_Reserved.f s = some (decide (s.data.toList ∈ wordsL)) := by
  unfold table_Reserved.f
  by_cases h0 : s.toList = ([] : List UInt8)
  · rw [if_pos h0, decide_eq_false]
    intro hm
    exact words_ne _ hm (by rw [← tl]; exact h0)
  · rw [if_neg h0, contains_f _ _ (.inr rfl), Option.bind_some]
    have hne : s.data.toList ≠ [] := by rw [← tl]; exact h0
    by_cases h1 : (32 : UInt8) ∈ s.data.toList
    · have : Lib.contains s.data.toList (⟨#[32]⟩ : ByteArray).data.toList = true := decide_eq_true ((TabS.has_one 32 _).2 h1)
      rw [if_pos this, decide_eq_false]
      intro hm
      exact words_no _ hm h1
    · have : ¬ Lib.contains s.data.toList (⟨#[32]⟩ : ByteArray).data.toList = true := fun z => h1 ((TabS.has_one 32 _).1 (of_decide_eq_true z))
      rw [if_neg this, if_pos (by omega), if_pos (by rw [ByteArray.size_append]; simp only [ByteArray.size, List.size_toArray, List.length_cons, List.length_nil] at *; omega)]
      have hb : strings_Contains.f bigW (((⟨#[32]⟩ : ByteArray) ++ s) ++ (⟨#[32]⟩ : ByteArray)) = some (decide (s.data.toList ∈ wordsL)) := by
        rw [contains_f _ _ (.inl (by decide +kernel))]
        congr 1
        unfold Lib.contains
        rw [decide_eq_decide, bigW_data, ← TabS.has_words h1 hne _ words_no]
        simp [app]
      refine (congrArg (fun z => Option.bind z fun t102 => some t102) hb).trans ?_
      rfl
theorem resv_is (s : ByteArray) (h : s.size < 9223372036854700000) : resv s = decide (s.data.toList ∈ wordsL) := by
  unfold resv
  rw [resv_eq s h]
  rfl
/-! #### names -/
theorem rname_l0 (s : ByteArray) (hs : s.size < 9223372036854700000) : ∀ d k i : Nat, i + d = s.size → d + 70 < k → barbicanref15_Name.l0 k s (i : Int) = some (okFrom s d i && (decide (1 ≤ s.size ∧ s.size ≤ 32) && !resv s)) := by
  intro d
  induction d with
  | zero =>
    intro k i hi hk
    obtain ⟨k, rfl⟩ : ∃ q, k = q + 1 := ⟨k - 1, by omega⟩
    simp only [barbicanref15_Name.l0]
    rw [if_neg (by omega), show okFrom s 0 i = true from rfl, Bool.true_and]
    by_cases h0 : (s.size : Int) > 0
    · rw [if_pos h0]
      by_cases h1 : (s.size : Int) ≤ 32
      · rw [if_pos h1, rres_f k (by omega), Option.bind_some, resv_is s hs, decide_eq_true (p := 1 ≤ s.size ∧ s.size ≤ 32) (by omega), Bool.true_and]
      · rw [if_neg h1, decide_eq_false (p := 1 ≤ s.size ∧ s.size ≤ 32) (by omega), Bool.false_and]
    · rw [if_neg h0, decide_eq_false (p := 1 ≤ s.size ∧ s.size ≤ 32) (by omega), Bool.false_and]
  | succ d ih =>
    intro k i hi hk
    obtain ⟨k, rfl⟩ : ∃ q, k = q + 1 := ⟨k - 1, by omega⟩
    have hr := ih k (i + 1) (by omega) (by omega)
    simp only [barbicanref15_Name.l0]
    rw [if_pos (by omega), if_pos (by omega), step64 i (by omega), hr]
    have e : okFrom s (d + 1) i = (okB i (bt s (i : Int)) && okFrom s d (i + 1)) := rfl
    rw [e, Bool.and_assoc]
    generalize (okFrom s d (i + 1) && (decide (1 ≤ s.size ∧ s.size ≤ 32) && !resv s)) = r
    generalize bt s (i : Int) = b
    repeat' split
    all_goals first
      | (exfalso; omega)
      | (rw [show okB i b = true from decide_eq_true (by omega), Bool.true_and])
      | (rw [show okB i b = false from decide_eq_false (by omega), Bool.false_and])
theorem rname_f (k : Nat) (s : ByteArray) (hs : s.size < 9223372036854700000) (hk : s.size + 80 ≤ k) : barbicanref15_Name.f k s = some (nm s) := by
  unfold barbicanref15_Name.f
  refine (rname_l0 s hs s.size k 0 (by omega) (by omega)).trans ?_
  unfold nm
  congr 1
  cases okFrom s s.size 0 <;> cases resv s <;> cases decide (1 ≤ s.size ∧ s.size ≤ 32) <;> rfl
/-! #### whether a table may be -/
theorem rcheck_l1 (a : ByteArray) (l : List S39) (c : S39) (key : Bool) (n : Nat) (hn : n ≤ l.length) (hl : l.length ≤ 16) : ∀ d k j : Nat, j + d = n → d + 3 ≤ k →
    ∃ q, k ≤ q + d + 2 ∧ barbicanref15_Check.l1 k key (n : Int) (j : Int) a l c.f0 c.f1 c.f2 c.f3 = (if ((l.drop j).take d).any (sameName c.f0) = true then some 9 else if c.f1 = 1 ∨ c.f1 = 2 ∨ c.f1 = 3 then (if c.f2 = true ∧ c.f3 = true then some 33 else barbicanref15_Check.l0 q (key || c.f2) (wrap64 ((n : Int) + 1)) a l) else some 7) := by
  intro d
  induction d with
  | zero =>
    intro k j hj hk
    obtain ⟨k, rfl⟩ : ∃ q, k = q + 2 := ⟨k - 2, by omega⟩
    refine ⟨k, by omega, ?_⟩
    rw [List.take_zero, List.any_nil, if_neg (by decide)]
    simp only [barbicanref15_Check.l1]
    rw [if_neg (by omega)]
    obtain ⟨f0, f1, f2, f3⟩ := c
    dsimp only
    by_cases h1 : f1 < 1
    · rw [if_pos h1, if_neg (by omega)]
      simp only [barbicanref15_Check.j2, ↓reduceIte]
    · rw [if_neg h1]
      simp only [barbicanref15_Check.j2]
      by_cases h2 : f1 > 3
      · rw [if_pos (decide_eq_true h2), if_neg (by omega)]
      · rw [if_neg (by simp; omega), if_pos (show f1 = 1 ∨ f1 = 2 ∨ f1 = 3 by omega)]
        cases f2 <;> cases f3 <;> cases key <;> simp
  | succ d ih =>
    intro k j hj hk
    obtain ⟨k, rfl⟩ : ∃ q, k = q + 1 := ⟨k - 1, by omega⟩
    obtain ⟨q, hq, hi⟩ := ih k (j + 1) (by omega) (by omega)
    refine ⟨q, by omega, ?_⟩
    have hjl : j < l.length := by omega
    have hd : (l.drop j).take (d + 1) = l[j] :: (l.drop (j + 1)).take d := by rw [List.drop_eq_getElem_cons hjl, List.take_succ_cons]
    have hrd : rd_T39 l (j : Int) = l[j] := by unfold rd_T39; rw [Int.toNat_natCast, List.getD_eq_getElem?_getD, List.getElem?_eq_getElem hjl]; rfl
    simp only [barbicanref15_Check.l1]
    rw [if_pos (by omega), if_pos (by omega), if_pos (by omega), hrd, step64 j (by omega), hi, hd, List.any_cons]
    by_cases he : l[j].f0.toList = c.f0.toList
    · rw [if_pos he, if_pos (by unfold sameName; simp [he])]
    · rw [if_neg he]
      have : sameName c.f0 l[j] = false := by unfold sameName; simpa using he
      rw [this, Bool.false_or]
theorem rcheck_l0 (a : ByteArray) (l : List S39) (hl : l.length ≤ 16) (M : Nat) (hM : M < 9223372036854700000) (hn : ∀ c ∈ l, c.f0.size ≤ M) : ∀ (rest ahead : List S39) (key : Bool) (k : Nat), l = ahead ++ rest → M + 100 + 25 * rest.length ≤ k →
    barbicanref15_Check.l0 k key (ahead.length : Int) a l = some ((chkR ahead rest key).getD 0) := by
  intro rest
  induction rest with
  | nil =>
    intro ahead key k h hk
    obtain ⟨k, rfl⟩ : ∃ q, k = q + 1 := ⟨k - 1, by omega⟩
    rw [List.append_nil] at h
    subst h
    simp only [barbicanref15_Check.l0]
    rw [if_neg (by omega)]
    unfold chkR
    cases key <;> rfl
  | cons c r ih =>
    intro ahead key k h hk
    simp only [List.length_cons] at hk
    obtain ⟨k, rfl⟩ : ∃ q, k = q + 1 := ⟨k - 1, by omega⟩
    have hlen : l.length = ahead.length + (r.length + 1) := by rw [h]; simp
    have hc := rd_at h
    have hcM := hn c (by rw [h]; simp)
    obtain ⟨q, hq, h1⟩ := rcheck_l1 a l c key ahead.length (by omega) hl ahead.length k 0 (by omega) (by omega)
    rw [List.drop_zero, show l.take ahead.length = ahead by rw [h, List.take_left]] at h1
    simp only [barbicanref15_Check.l0]
    rw [if_pos (by omega), if_pos (by omega), hc, rname_f k c.f0 (by omega) (by omega), Option.bind_some]
    have e : chkR ahead (c :: r) key = if (colE c ahead).isNone = true then chkR (ahead ++ [c]) r (key || c.f2) else some ((colE c ahead).getD 0) := rfl
    rw [e]
    have hi := ih (ahead ++ [c]) (key || c.f2) q (by rw [h]; simp) (by omega)
    rw [show (ahead ++ [c]).length = ahead.length + 1 by simp, ← step64 _ (by omega)] at hi
    unfold colE
    cases hnm : nm c.f0 with
    | false => rfl
    | true =>
      rw [if_pos rfl]
      refine Eq.trans h1 ?_
      rw [hi]
      by_cases h2 : ahead.any (sameName c.f0) = true
      · simp only [if_pos h2, if_pos]; rfl
      · by_cases h3 : c.f1 = 1 ∨ c.f1 = 2 ∨ c.f1 = 3
        · by_cases h4 : c.f2 = true ∧ c.f3 = true
          · simp only [if_neg h2, if_pos h3, if_pos h4, if_pos]; rfl
          · simp only [if_neg h2, if_pos h3, if_neg h4, if_pos]; rfl
        · simp only [if_neg h2, if_neg h3, if_pos]; rfl
theorem rcheck_f (k : Nat) (a : ByteArray) (l : List S39) (M : Nat) (hM : M < 9223372036854700000) (ha : a.size ≤ M) (hn : ∀ c ∈ l, c.f0.size ≤ M) (hk : M + 600 ≤ k) : barbicanref15_Check.f k a l = some ((chk a l).getD 0) := by
  unfold barbicanref15_Check.f chk
  rw [rname_f k a (by omega) (by omega), Option.bind_some]
  cases nm a with
  | false => rfl
  | true =>
    rw [if_pos rfl, if_pos rfl]
    by_cases h0 : l.length = 0
    · rw [if_pos (by omega), if_pos h0]; rfl
    · rw [if_neg (by omega), if_neg h0]
      by_cases h1 : l.length > 16
      · rw [if_pos (by omega), if_pos h1]; rfl
      · rw [if_neg (by omega), if_neg h1]
        exact rcheck_l0 a l (by omega) M hM hn l [] false k rfl (by omega)
theorem colE_ne {c : S39} {ahead : List S39} {e : Int} (h : colE c ahead = some e) : e ≠ 0 := by
  unfold colE at h
  repeat' split at h
  all_goals first
    | cases h; done
    | (injection h with h; omega)
theorem chkR_ne : ∀ (rest ahead : List S39) (key : Bool) (e : Int), chkR ahead rest key = some e → e ≠ 0 := by
  intro rest
  induction rest with
  | nil => intro ahead key e h; unfold chkR at h; split at h; · cases h
           · injection h with h; omega
  | cons c r ih =>
    intro ahead key e h
    unfold chkR at h
    split at h
    · exact ih _ _ _ h
    · rename_i h1
      cases hc : colE c ahead with
      | none => rw [hc] at h1; exact absurd rfl h1
      | some q => rw [hc] at h; injection h with h; subst h; exact colE_ne hc
theorem chk_ne {a : ByteArray} {l : List S39} {e : Int} (h : chk a l = some e) : e ≠ 0 := by
  unfold chk at h
  repeat' split at h
  all_goals first
    | (injection h with h; omega)
    | exact chkR_ne _ _ _ _ h
theorem chk_zero (a : ByteArray) (l : List S39) : (chk a l).getD 0 = 0 ↔ chk a l = none := by
  cases h : chk a l with
  | none => simp
  | some e => simp; exact chk_ne h
end TabL
end Go.Proofs.YtkcbgnhgjlbmlaaDoor.Pure
namespace Go.Proofs.YtkcbgnhgjlbmlaaDoor.Pure
open Go.RowKit Go.Proofs.YtkcbgnhgjlbmlaaDoor.XTc Go.Proofs.YtkcbgnhgjlbmlaaDoorW.PrintWords Go.Proofs.YtkcbgnhgjlbmlaaDoorW.PrintLast Go.Proofs.YtkcbgnhgjlbmlaaDoorW.PrintMore Go.Proofs.YtkcbgnhgjlbmlaaDoor.Str
set_option linter.unusedVariables false
set_option linter.unusedSimpArgs false
namespace TabL
open TcO (T pos posL dupP firstE newE newF findP findQ)
def ck (t : T) : Option Int := chk t.f0 t.f1
theorem nameEq (a b : ByteArray) : a.toList = b.toList ↔ a = b := ⟨fun h => TabS.ext (by rw [← tl, ← tl]; exact h), fun h => by rw [h]⟩
theorem rdT {l done r : List T} {t : T} (h : l = done ++ t :: r) : rd_T25 l (done.length : Int) = t := by
  subst h
  unfold rd_T25
  rw [Int.toNat_natCast, List.getD_eq_getElem?_getD, List.getElem?_append_right (Nat.le_refl _), Nat.sub_self]
  rfl
/-! #### places -/
/-- The first place of a name. -/
def fp (s : ByteArray) : List T → Nat → Option Nat
  | [], _ => none
  | t :: r, i => if t.f0 = s then some i else fp s r (i + 1)
theorem fp_cons (s : ByteArray) (t : T) (r : List T) (i : Nat) : fp s (t :: r) i = if t.f0 = s then some i else fp s r (i + 1) := rfl
theorem dupP_cons (d : List T) (t : T) (r : List T) : dupP d (t :: r) = if (pos d t.f0).isSome = true then true else dupP (d ++ [t]) r := rfl
theorem firstE_cons (t : T) (r : List T) : firstE ck (t :: r) = match chk t.f0 t.f1 with | some x => some x | none => firstE ck r := rfl
theorem posL_no (s : ByteArray) : ∀ (l : List T) (i : Nat) (acc : Option Nat), (∀ t ∈ l, t.f0 ≠ s) → posL acc (l.zipIdx i) s = acc := by
  intro l
  induction l with
  | nil => intro i acc _; rfl
  | cons t r ih =>
    intro i acc h
    have h1 : t.f0 ≠ s := h t (by simp)
    have h2 := ih (i + 1) acc (fun u hu => h u (by simp [hu]))
    simp only [posL, List.zipIdx_cons, List.foldl_cons] at h2 ⊢
    rw [if_neg h1]
    exact h2
theorem posL_some (s : ByteArray) : ∀ (l : List T) (i : Nat) (acc : Option Nat), (acc.isSome = true ∨ ∃ t ∈ l, t.f0 = s) → (posL acc (l.zipIdx i) s).isSome = true := by
  intro l
  induction l with
  | nil =>
    intro i acc h
    rcases h with h | ⟨t, ht, _⟩
    · exact h
    · cases ht
  | cons t r ih =>
    intro i acc h
    have h2 := ih (i + 1) (if t.f0 = s then some i else acc) ?_
    · simp only [posL, List.zipIdx_cons, List.foldl_cons] at h2 ⊢
      exact h2
    · by_cases ht : t.f0 = s
      · rw [if_pos ht]; exact .inl rfl
      · rw [if_neg ht]
        rcases h with h | ⟨u, hu, hs⟩
        · exact .inl h
        · rcases List.mem_cons.1 hu with rfl | hu
          · exact absurd hs ht
          · exact .inr ⟨u, hu, hs⟩
theorem pos_isSome (d : List T) (s : ByteArray) : (pos d s).isSome = true ↔ ∃ t ∈ d, t.f0 = s := by
  constructor
  · intro h
    by_cases hh : ∃ t ∈ d, t.f0 = s
    · exact hh
    · have h1 : pos d s = none := posL_no s d 0 none (fun t ht e => hh ⟨t, ht, e⟩)
      rw [h1] at h
      cases h
  · intro h
    exact posL_some s d 0 none (.inr h)
theorem dup_no : ∀ (l d : List T), dupP d l = false → (l.map (·.f0)).Nodup ∧ ∀ t ∈ l, ∀ u ∈ d, u.f0 ≠ t.f0 := by
  intro l
  induction l with
  | nil => intro d _; exact ⟨by simp, fun t ht => by cases ht⟩
  | cons t r ih =>
    intro d h
    rw [dupP_cons] at h
    by_cases hp : (pos d t.f0).isSome = true
    · rw [if_pos hp] at h; cases h
    · rw [if_neg hp] at h
      obtain ⟨h1, h2⟩ := ih _ h
      have h3 : ∀ u ∈ d, u.f0 ≠ t.f0 := fun u hu e => hp ((pos_isSome d t.f0).2 ⟨u, hu, e⟩)
      refine ⟨?_, ?_⟩
      · rw [List.map_cons, List.nodup_cons]
        refine ⟨fun hm => ?_, h1⟩
        obtain ⟨u, hu, e⟩ := List.mem_map.1 hm
        exact h2 u hu t (by simp) e.symm
      · intro x hx u hu
        rcases List.mem_cons.1 hx with rfl | hx
        · exact h3 u hu
        · exact h2 x hx u (by simp [hu])
theorem pos_fp (s : ByteArray) : ∀ (l : List T) (i : Nat), (l.map (·.f0)).Nodup → posL none (l.zipIdx i) s = fp s l i := by
  intro l
  induction l with
  | nil => intro i _; rfl
  | cons t r ih =>
    intro i h
    rw [List.map_cons, List.nodup_cons] at h
    rw [fp_cons]
    by_cases ht : t.f0 = s
    · rw [if_pos ht]
      have := posL_no s r (i + 1) (some i) (fun u hu e => h.1 (List.mem_map.2 ⟨u, hu, e.trans ht.symm⟩))
      simp only [posL, List.zipIdx_cons, List.foldl_cons] at this ⊢
      rw [if_pos ht]
      exact this
    · rw [if_neg ht]
      have := ih (i + 1) h.2
      simp only [posL, List.zipIdx_cons, List.foldl_cons] at this ⊢
      rw [if_neg ht]
      exact this
/-! #### the document's Find -/
def fnd : Option Nat → Int × Int
  | some j => (j, 0)
  | none => (0, 30)
theorem rfind_l0 (s : ByteArray) (l : List T) (hl : l.length < 9223372036854770000) : ∀ (rest done : List T) (k : Nat), l = done ++ rest → rest.length < k →
    barbicanref15_Find.l0 k l s (done.length : Int) = some (fnd (fp s rest done.length)) := by
  intro rest
  induction rest with
  | nil =>
    intro done k h hk
    obtain ⟨k, rfl⟩ : ∃ q, k = q + 1 := ⟨k - 1, by omega⟩
    rw [List.append_nil] at h
    subst h
    simp only [barbicanref15_Find.l0]
    rw [if_neg (by omega)]
    rfl
  | cons c r ih =>
    intro done k h hk
    obtain ⟨k, rfl⟩ : ∃ q, k = q + 1 := ⟨k - 1, by omega⟩
    have hlen : l.length = done.length + (r.length + 1) := by rw [h]; simp
    have hc := rdT h
    have hi := ih (done ++ [c]) k (by rw [h]; simp) (by simp only [List.length_cons] at hk; omega)
    rw [show (done ++ [c]).length = done.length + 1 by simp] at hi
    simp only [barbicanref15_Find.l0]
    rw [if_pos (by omega), if_pos (by omega), hc, step64 _ (by omega), hi]
    rw [fp_cons]
    by_cases hq : c.f0 = s
    · rw [if_pos ((nameEq _ _).2 hq), if_pos hq]; rfl
    · rw [if_neg (fun z => hq ((nameEq _ _).1 z)), if_neg hq]
/-! #### the document's New -/
theorem rnew_l2 (l : List T) (hl : l.length ≤ 32) (done r : List T) (t : T) (h : l = done ++ t :: r) : ∀ (d2 d1 : List T) (k : Nat), done = d1 ++ d2 → d2.length < k →
    ∃ k2, k - d2.length - 1 = k2 ∧ barbicanref15_New.l2 k l (done.length : Int) (d1.length : Int) = if ∃ u ∈ d2, u.f0 = t.f0 then some 9 else barbicanref15_New.l1 k2 l ((done.length + 1 : Nat) : Int) := by
  intro d2
  have hlen : l.length = done.length + (r.length + 1) := by rw [h]; simp
  induction d2 with
  | nil =>
    intro d1 k hd hk
    refine ⟨_, rfl, ?_⟩
    obtain ⟨k, rfl⟩ : ∃ q, k = q + 1 := ⟨k - 1, by omega⟩
    rw [List.append_nil] at hd
    subst hd
    simp only [barbicanref15_New.l2]
    rw [if_neg (by omega), if_neg (by simp), step64 _ (by omega)]
    rfl
  | cons u d2 ih =>
    intro d1 k hd hk
    refine ⟨_, rfl, ?_⟩
    obtain ⟨k, rfl⟩ : ∃ q, k = q + 1 := ⟨k - 1, by omega⟩
    have hdl : done.length = d1.length + (d2.length + 1) := by rw [hd]; simp
    have hu : rd_T25 l (d1.length : Int) = u := rdT (r := d2 ++ t :: r) (by rw [h, hd]; simp)
    have ht := rdT h
    obtain ⟨k2, hk2, hi⟩ := ih (d1 ++ [u]) k (by rw [hd]; simp) (by simp only [List.length_cons] at hk; omega)
    rw [show (d1 ++ [u]).length = d1.length + 1 by simp] at hi
    simp only [barbicanref15_New.l2]
    rw [if_pos (by omega), if_pos (by omega), if_pos (by omega), if_pos (by omega), if_pos (by omega), hu, ht, step64 _ (by omega), hi]
    by_cases hq : u.f0 = t.f0
    · rw [if_pos ((nameEq _ _).2 hq), if_pos ⟨u, by simp, hq⟩]
    · rw [if_neg (fun z => hq ((nameEq _ _).1 z))]
      have e1 : (∃ x ∈ u :: d2, x.f0 = t.f0) ↔ ∃ x ∈ d2, x.f0 = t.f0 := by
        constructor
        · rintro ⟨x, hx, hxe⟩
          rcases List.mem_cons.1 hx with rfl | hx
          · exact absurd hxe hq
          · exact ⟨x, hx, hxe⟩
        · rintro ⟨x, hx, hxe⟩
          exact ⟨x, by simp [hx], hxe⟩
      rw [show k + 1 - (u :: d2).length - 1 = k2 by simp only [List.length_cons]; omega]
      by_cases hh : ∃ x ∈ d2, x.f0 = t.f0
      · rw [if_pos hh, if_pos (e1.2 hh)]
      · rw [if_neg hh, if_neg (fun z => hh (e1.1 z))]
theorem rnew_l1 (l : List T) (hl : l.length ≤ 32) : ∀ (rest done : List T) (k : Nat), l = done ++ rest → 40 * rest.length + 5 ≤ k →
    barbicanref15_New.l1 k l (done.length : Int) = some (if dupP done rest = true then 9 else 0) := by
  intro rest
  induction rest with
  | nil =>
    intro done k h hk
    obtain ⟨k, rfl⟩ : ∃ q, k = q + 1 := ⟨k - 1, by omega⟩
    rw [List.append_nil] at h
    subst h
    simp only [barbicanref15_New.l1]
    rw [if_neg (by omega)]
    rfl
  | cons t r ih =>
    intro done k h hk
    obtain ⟨k, rfl⟩ : ∃ q, k = q + 1 := ⟨k - 1, by omega⟩
    have hlen : l.length = done.length + (r.length + 1) := by rw [h]; simp
    simp only [List.length_cons] at hk
    obtain ⟨k2, hk2, h2⟩ := rnew_l2 l hl done r t h done [] k rfl (by omega)
    have hi := ih (done ++ [t]) k2 (by rw [h]; simp) (by omega)
    rw [show (done ++ [t]).length = done.length + 1 by simp] at hi
    simp only [barbicanref15_New.l1]
    rw [if_pos (by omega)]
    rw [show (([] : List T).length : Int) = 0 from rfl] at h2
    rw [h2, hi]
    rw [dupP_cons]
    by_cases hp : (pos done t.f0).isSome = true
    · rw [if_pos hp, if_pos ((pos_isSome _ _).1 hp)]; rfl
    · rw [if_neg hp, if_neg (fun z => hp ((pos_isSome _ _).2 z))]
theorem rnew_l0 (l : List T) (hl : l.length ≤ 32) (M : Nat) (hM : M < 9223372036854700000) (ha : ∀ t ∈ l, t.f0.size ≤ M ∧ ∀ c ∈ t.f1, c.f0.size ≤ M) : ∀ (rest done : List T) (k : Nat), l = done ++ rest → M + 2000 + rest.length ≤ k →
    barbicanref15_New.l0 k l (done.length : Int) = some (match firstE ck rest with | some x => x | none => if dupP [] l = true then 9 else 0) := by
  intro rest
  induction rest with
  | nil =>
    intro done k h hk
    obtain ⟨k, rfl⟩ : ∃ q, k = q + 1 := ⟨k - 1, by omega⟩
    have h1 := rnew_l1 l hl l [] k rfl (by omega)
    rw [show (([] : List T).length : Int) = 0 from rfl] at h1
    rw [List.append_nil] at h
    simp only [barbicanref15_New.l0]
    rw [if_neg (by rw [h]; omega), h1]
    rfl
  | cons t r ih =>
    intro done k h hk
    obtain ⟨k, rfl⟩ : ∃ q, k = q + 1 := ⟨k - 1, by omega⟩
    have hlen : l.length = done.length + (r.length + 1) := by rw [h]; simp
    simp only [List.length_cons] at hk
    have ht := rdT h
    have hm : t ∈ l := by rw [h]; simp
    have hi := ih (done ++ [t]) k (by rw [h]; simp) (by omega)
    rw [show (done ++ [t]).length = done.length + 1 by simp] at hi
    simp only [barbicanref15_New.l0]
    rw [if_pos (by omega), if_pos (by omega), ht, rcheck_f k t.f0 t.f1 M hM (ha t hm).1 (ha t hm).2 (by omega), Option.bind_some, step64 _ (by omega), hi]
    rw [firstE_cons]
    cases hc : chk t.f0 t.f1 with
    | none => rw [if_pos (show (none : Option Int).getD 0 = 0 from rfl)]
    | some x => rw [if_neg (show ¬ ((some x : Option Int).getD 0 = 0) from chk_ne hc)]; rfl
theorem rnew_f (k : Nat) (l : List T) (M : Nat) (hM : M < 9223372036854700000) (ha : ∀ t ∈ l, t.f0.size ≤ M ∧ ∀ c ∈ t.f1, c.f0.size ≤ M) (hk : M + 2040 ≤ k) : barbicanref15_New.f k l = some ((newF ck l).getD 0) := by
  unfold barbicanref15_New.f newF
  by_cases h : 32 < l.length
  · rw [if_pos (by omega), if_pos h]; rfl
  · rw [if_neg (by omega), if_neg h]
    have := rnew_l0 l (by omega) M hM ha l [] k rfl (by omega)
    rw [show (([] : List T).length : Int) = 0 from rfl] at this
    rw [this]
    unfold newE
    cases firstE ck l with
    | some x => rfl
    | none => dsimp only; split <;> rfl
theorem firstE_ne : ∀ (l : List T) (x : Int), firstE ck l = some x → x ≠ 0 := by
  intro l
  induction l with
  | nil => intro x h; cases h
  | cons t r ih =>
    intro x h
    rw [firstE_cons] at h
    revert h
    cases hc : chk t.f0 t.f1 with
    | none => exact ih x
    | some y => intro h; obtain rfl := Option.some.inj h; exact chk_ne hc
theorem firstE_all : ∀ (l : List T), firstE ck l = none → ∀ t ∈ l, ck t = none := by
  intro l
  induction l with
  | nil => intro _ t ht; cases ht
  | cons t r ih =>
    intro h u hu
    rw [firstE_cons] at h
    revert h
    cases hc : chk t.f0 t.f1 with
    | none =>
      intro h
      rcases List.mem_cons.1 hu with rfl | hu
      · exact hc
      · exact ih h u hu
    | some y => intro h; cases h
theorem newF_ne (l : List T) (x : Int) (h : newF ck l = some x) : x ≠ 0 := by
  unfold newF newE at h
  split at h
  · obtain rfl := Option.some.inj h; decide
  · split at h
    · rename_i y hy
      obtain rfl := Option.some.inj h
      exact firstE_ne l _ hy
    · split at h
      · obtain rfl := Option.some.inj h; decide
      · cases h
theorem newF_none (l : List T) (h : newF ck l = none) : (∀ t ∈ l, ck t = none) ∧ (l.map (·.f0)).Nodup := by
  unfold newF newE at h
  split at h
  · cases h
  · split at h
    · cases h
    · rename_i hf
      split at h
      · cases h
      · rename_i hd
        exact ⟨firstE_all l hf, (dup_no l [] (by simpa using hd)).1⟩
theorem bulk_memT : ∀ (l : List T) (c : T), c ∈ l → bulk25 c ≤ (l.map bulk25).sum := by
  intro l
  induction l with
  | nil => intro c h; cases h
  | cons d r ih =>
    intro c h
    simp only [List.map_cons, List.sum_cons]
    rcases List.mem_cons.1 h with rfl | h
    · omega
    · have := ih c h; omega
theorem bulk_lenT : ∀ l : List T, l.length ≤ (l.map bulk25).sum := by
  intro l
  induction l with
  | nil => exact Nat.le_refl _
  | cons c r ih =>
    have hb : 1 ≤ bulk25 c := by unfold bulk25; omega
    simp only [List.length_cons, List.map_cons, List.sum_cons]
    omega
theorem bulk_memC : ∀ (l : List S39) (c : S39), c ∈ l → bulk39 c ≤ (l.map bulk39).sum := by
  intro l
  induction l with
  | nil => intro c h; cases h
  | cons d r ih =>
    intro c h
    simp only [List.map_cons, List.sum_cons]
    rcases List.mem_cons.1 h with rfl | h
    · omega
    · have := ih c h; omega
theorem bulk_lenC : ∀ l : List S39, l.length ≤ (l.map bulk39).sum := by
  intro l
  induction l with
  | nil => exact Nat.le_refl _
  | cons c r ih =>
    have hb : 1 ≤ bulk39 c := by unfold bulk39; omega
    simp only [List.length_cons, List.map_cons, List.sum_cons]
    omega
end TabL
open TabL TcO in
theorem TableCatalogs_walk (W : World) (hG : GE W) (A0 : Option Addr) (c0 : Nat) (l0 : List (S25)) (hr0 : Kd.C k25 W A0 l0.length l0) (hc0 : l0.length ≤ c0) (a1 : ByteArray) (a2 : Int) (g0 : (fun xs : List (S25) => xs.length ≤ maxLen ∧ ∀ x ∈ xs, good25 x) l0) (b0 : (fun xs : List (S25) => (xs.map bulk25).sum + 1) l0 ≤ 1048576) (g1 : (fun s : ByteArray => s.size ≤ maxLen) a1) (b1 : (fun s : ByteArray => s.size + 1) a1 ≤ 1048576) (g2 : (fun n : Int => (Lit.int .i64 n).wf = true) a2) :
    Calls Tryd.prog 3 #[.slice A0 l0.length c0, .string a1, .int .i64 a2] W fun e w' => e = .returned (.bool true) ∧ Below W.heap.size W w' := by
  dsimp only at b0 b1 g1
  have hlen := bulk_lenT l0
  have hT : ∀ t ∈ l0, t.f0.size ≤ 1048576 ∧ t.f1.length ≤ 1048576 ∧ ∀ c ∈ t.f1, c.f0.size ≤ 1048576 := by
    intro t ht
    have h1 := bulk_memT l0 t ht
    have h2 : t.f0.size + ((t.f1.map bulk39).sum) + 1 ≤ bulk25 t := by unfold bulk25; dsimp only; omega
    have h3 := bulk_lenC t.f1
    refine ⟨by omega, by omega, fun c hc => ?_⟩
    have h4 := bulk_memC t.f1 c hc
    have h5 : c.f0.size ≤ bulk39 c := by unfold bulk39; dsimp only; omega
    omega
  have hN := rnew_f 4000000 l0 1048576 (by omega) (fun t ht => ⟨(hT t ht).1, (hT t ht).2.2⟩) (by omega)
  have he : ∀ t ∈ l0, table_Check.f 4000000 t.f0 t.f1 = some (ck t) := fun t _ => check_f 4000000 (by omega) t.f0 t.f1
  have hgood : ∀ t ∈ l0, ck t = none → t.f1 ≠ [] ∧ t.f1.length < 4398046511104 ∧ t.f0.size ≤ maxLen := by
    intro t _ h
    obtain ⟨h1, h2, h3, _⟩ := chk_good h
    have h4 := nm_size h1
    refine ⟨fun e => by rw [e] at h2; simp at h2, by omega, by unfold maxLen; omega⟩
  have htw : ∀ t ∈ l0, t.f1.length < 4398046511104 := fun t ht => by have := (hT t ht).2.1; omega
  have hsure := sure_f 4000000 (by omega)
  cases hx : newF ck l0 with
  | some x =>
    rw [hx] at hN
    exact law_err 4000000 ck A0 c0 l0 a1 a2 x (by omega) htw he hgood hN hx (newF_ne l0 x hx) hsure W hr0 hc0 hG
  | none =>
    rw [hx] at hN
    obtain ⟨hnone, hnd⟩ := newF_none l0 hx
    have hF := rfind_l0 a1 l0 (by omega) l0 [] 4000000 rfl (by omega)
    have hP : pos l0 a1 = fp a1 l0 0 := pos_fp a1 l0 0 hnd
    have hFP : findP (some l0) a1 = ((fnd (fp a1 l0 0)).1, if (fnd (fp a1 l0 0)).2 = 0 then none else some (fnd (fp a1 l0 0)).2) := by
      show findQ (pos l0 a1) = _
      rw [hP]
      cases fp a1 l0 0 <;> rfl
    exact law_ok 4000000 ck A0 c0 l0 a1 a2 0 (fnd (fp a1 l0 0)).2 (by omega) htw he hgood hN hx rfl (fnd (fp a1 l0 0)).1 hF hFP g1 (same_f 4000000 _ [] (by simp) (by simp)) (fun t ht => same_f 4000000 t.f0 t.f1 (by have := (hT t ht).2.1; omega) (by have := (hT t ht).2.1; omega)) hnone hsure W hr0 hc0 hG
end Go.Proofs.YtkcbgnhgjlbmlaaDoor.Pure
