/- Tables, plain: what the program's Name, Check, Text and Parse answer; a text that is read is a table's text, and is read as it. -/
import Derived.Test.YtnflmaonilabgaaDoorXTcsx10
import Derived.Test.YtnflmaonilabgaaDoorXTcsx8
import Derived.Test.YtnflmaonilabgaaDoorXTcsx11
import Derived.Test.YtnflmaonilabgaaDoorTabS
namespace Go.Proofs.YtnflmaonilabgaaDoor.Pure
open Go.RowKit Go.Proofs.YtnflmaonilabgaaDoor.XTcs Go.Proofs.YtnflmaonilabgaaDoorW.PrintWords Go.Proofs.YtnflmaonilabgaaDoorW.PrintLast Go.Proofs.YtnflmaonilabgaaDoorW.PrintMore
set_option linter.unusedVariables false
set_option linter.unusedSimpArgs false
namespace TabL
open TabS (ext app sz from_ upto_)
theorem wrap64_small (x : Int) (h0 : -9223372036854775808 ≤ x) (h1 : x < 9223372036854775808) : wrap64 x = x := by
  unfold wrap64
  omega
theorem step64 (i : Nat) (h : i < 9223372036854775000) : wrap64 ((i : Int) + 1) = ((i + 1 : Nat) : Int) := by rw [wrap64_small _ (by omega) (by omega)]; omega
theorem tl (s : ByteArray) : s.toList = s.data.toList := Lib.toList_data s
/-! #### names -/
/-- May the byte b stand at place i of a name? -/
def okB (i : Nat) (b : Int) : Bool := decide ((97 ≤ b ∧ b ≤ 122) ∨ (i ≠ 0 ∧ (b = 95 ∨ (48 ≤ b ∧ b ≤ 57))))
def okFrom (s : ByteArray) : Nat → Nat → Bool
  | 0, _ => true
  | d + 1, i => okB i (bt s (i : Int)) && okFrom s d (i + 1)
theorem okFrom_at (s : ByteArray) : ∀ d i : Nat, okFrom s d i = true → ∀ j, i ≤ j → j < i + d → okB j (bt s (j : Int)) = true := by
  intro d
  induction d with
  | zero => intro i _ j h1 h2; omega
  | succ d ih =>
    intro i h j h1 h2
    unfold okFrom at h
    rw [Bool.and_eq_true] at h
    by_cases hj : j = i
    · subst hj; exact h.1
    · exact ih (i + 1) h.2 j (by omega) (by omega)
theorem name_l0 (s : ByteArray) (hs : s.size < 9223372036854770000) : ∀ d k i : Nat, i + d = s.size → d < k → table_Name.l0 k s (s.size : Int) (i : Int) = some (okFrom s d i) := by
  intro d
  induction d with
  | zero =>
    intro k i hi hk
    obtain ⟨k, rfl⟩ : ∃ q, k = q + 1 := ⟨k - 1, by omega⟩
    simp only [table_Name.l0]
    rw [if_neg (by omega)]
    rfl
  | succ d ih =>
    intro k i hi hk
    obtain ⟨k, rfl⟩ : ∃ q, k = q + 1 := ⟨k - 1, by omega⟩
    have hr := ih k (i + 1) (by omega) (by omega)
    simp only [table_Name.l0]
    rw [if_pos (by omega), if_pos (by omega), if_pos (by omega), step64 i (by omega), hr]
    have e : okFrom s (d + 1) i = (okB i (bt s (i : Int)) && okFrom s d (i + 1)) := rfl
    rw [e]
    generalize okFrom s d (i + 1) = r
    generalize bt s (i : Int) = b
    repeat' split
    all_goals first
      | (exfalso; omega)
      | (rw [show okB i b = true from decide_eq_true (by omega), Bool.true_and])
      | (rw [show okB i b = false from decide_eq_false (by omega), Bool.false_and])
theorem contains_f (a b : ByteArray) (h : a.size < 4294967281 ∨ b.size = 1) : strings_Contains.f a b = some (Lib.contains a.data.toList b.data.toList) := if_pos h
theorem resv_some (s : ByteArray) (h : s.size < 9223372036854700000) : ∃ b, table_Reserved.f s = some b := by
  unfold table_Reserved.f
  split
  · exact ⟨_, rfl⟩
  · rw [contains_f _ _ (.inr rfl), Option.bind_some]
    split
    · exact ⟨_, rfl⟩
    · rw [if_pos (by omega), if_pos (by rw [ByteArray.size_append]; simp only [ByteArray.size, List.size_toArray, List.length_cons, List.length_nil] at *; omega), contains_f _ _ (.inl (by decide +kernel)), Option.bind_some]
      exact ⟨_, rfl⟩
def resv (s : ByteArray) : Bool := (table_Reserved.f s).getD false
theorem resv_f (s : ByteArray) (h : s.size < 9223372036854700000) : table_Reserved.f s = some (resv s) := by
  obtain ⟨b, hb⟩ := resv_some s h
  rw [resv, hb]
  rfl
/-- Is it a name? -/
def nm (s : ByteArray) : Bool := decide (1 ≤ s.size ∧ s.size ≤ 32) && (!resv s && okFrom s s.size 0)
theorem name_f (k : Nat) (hk : 40 ≤ k) (s : ByteArray) : table_Name.f k s = some (nm s) := by
  unfold table_Name.f nm
  obtain ⟨k, rfl⟩ : ∃ q, k = q + 1 := ⟨k - 1, by omega⟩
  split
  · rw [show decide (1 ≤ s.size ∧ s.size ≤ 32) = false from decide_eq_false (by omega), Bool.false_and]
    rfl
  · split
    · rw [show decide (1 ≤ s.size ∧ s.size ≤ 32) = false from decide_eq_false (by omega), Bool.false_and]
      rfl
    · rw [show decide (1 ≤ s.size ∧ s.size ≤ 32) = true from decide_eq_true (by omega), Bool.true_and, resv_f s (by omega), Option.bind_some]
      simp only [table_Name.j0]
      cases hr : resv s with
      | true => rfl
      | false =>
        rw [if_neg (by decide)]
        exact name_l0 s (by omega) s.size k 0 (by omega) (by omega)
theorem nm_size {s : ByteArray} (h : nm s = true) : 1 ≤ s.size ∧ s.size ≤ 32 := by
  unfold nm at h
  rw [Bool.and_eq_true, decide_eq_true_iff] at h
  exact h.1
/-- A name's bytes. -/
theorem nm_byte {s : ByteArray} (h : nm s = true) {c : UInt8} (hc : c ∈ s.data.toList) : 48 ≤ c.toNat := by
  unfold nm at h
  rw [Bool.and_eq_true, Bool.and_eq_true] at h
  obtain ⟨j, hj, hjc⟩ := List.getElem_of_mem hc
  have hj' : j < s.size := by rw [sz]; exact hj
  have h1 := okFrom_at s s.size 0 h.2.2 j (by omega) (by omega)
  unfold okB at h1
  have h2 := of_decide_eq_true h1
  have h3 : bt s (j : Int) = (c.toNat : Int) := by
    rw [← bt_at s (j : Int) (by simpa using hj')]
    subst hjc
    rfl
  rw [h3] at h2
  omega
theorem nm_no {s : ByteArray} (h : nm s = true) {c : UInt8} (hc : c.toNat < 48) : c ∉ s.data.toList := fun hm => by
  have := nm_byte h hm
  omega
/-! #### columns and tables -/
def colE (c : S55) (ahead : List S55) : Option Int := if nm c.f0 = true then (if ahead.any (sameName c.f0) = true then some 9 else if c.f1 = 1 ∨ c.f1 = 2 ∨ c.f1 = 3 then (if c.f2 = true ∧ c.f3 = true then some 33 else none) else some 7) else some 30
theorem column_f (c : S55) (ahead : List S55) (h : ahead.length ≤ 9223372036854775807) : table_column.f c.f0 c.f1 c.f2 c.f3 ahead = some (colE c ahead) := by
  unfold table_column.f colE
  rw [name_f _ (by omega), Option.bind_some]
  cases nm c.f0 with
  | false => rfl
  | true =>
    rw [if_pos rfl, if_pos rfl, if_pos h]
    repeat' split
    all_goals rfl
def chkR : List S55 → List S55 → Bool → Option Int
  | _, [], key => if key = true then none else some 8
  | ahead, c :: r, key => if (colE c ahead).isNone = true then chkR (ahead ++ [c]) r (key || c.f2) else some ((colE c ahead).getD 0)
def chk (a : ByteArray) (l : List S55) : Option Int := if nm a = true then (if l.length = 0 then some 1 else if l.length > 16 then some 2 else chkR [] l false) else some 30
theorem rd_at {l ahead r : List S55} {c : S55} (h : l = ahead ++ c :: r) : rd_T55 l (ahead.length : Int) = c := by
  subst h
  unfold rd_T55
  rw [Int.toNat_natCast, List.getD_eq_getElem?_getD, List.getElem?_append_right (Nat.le_refl _), Nat.sub_self]
  rfl
theorem check_l0 (a : ByteArray) (l : List S55) (hl : l.length ≤ 16) : ∀ (rest ahead : List S55) (x : Nat) (k : Nat), l = ahead ++ rest → x ≤ ahead.length → rest.length < k →
    table_Check.l0 k (x : Int) l (l.length : Int) (ahead.length : Int) a l = some (chkR ahead rest (decide (x ≠ 0))) := by
  intro rest
  induction rest with
  | nil =>
    intro ahead x k h hx hk
    obtain ⟨k, rfl⟩ : ∃ q, k = q + 1 := ⟨k - 1, by omega⟩
    rw [List.append_nil] at h
    subst h
    simp only [table_Check.l0]
    rw [if_neg (by omega)]
    unfold chkR
    by_cases h0 : x = 0
    · subst h0; rfl
    · rw [if_neg (by omega), if_pos (decide_eq_true h0)]
  | cons c r ih =>
    intro ahead x k h hx hk
    obtain ⟨k, rfl⟩ : ∃ q, k = q + 1 := ⟨k - 1, by omega⟩
    have hlen : l.length = ahead.length + (r.length + 1) := by rw [h]; simp
    have hc := rd_at h
    simp only [table_Check.l0]
    rw [if_pos (by omega), if_pos (by omega), if_pos (by omega), if_pos (by omega), hc, Int.toNat_natCast, show l.take ahead.length = ahead by rw [h, List.take_left], column_f c ahead (by omega), Option.bind_some]
    have e : chkR ahead (c :: r) (decide (x ≠ 0)) = if (colE c ahead).isNone = true then chkR (ahead ++ [c]) r (decide (x ≠ 0) || c.f2) else some ((colE c ahead).getD 0) := rfl
    rw [e]
    by_cases hn : (colE c ahead).isNone = true
    · rw [if_pos hn, if_pos hn, step64 ahead.length (by omega)]
      have hl' : (ahead ++ [c]).length = ahead.length + 1 := by simp
      cases hf : c.f2 with
      | true =>
        have hq := ih (ahead ++ [c]) (x + 1) k (by rw [h]; simp) (by omega) (by simp only [List.length_cons] at hk; omega)
        rw [hl', show decide (x + 1 ≠ 0) = true from decide_eq_true (by omega)] at hq
        rw [if_pos rfl, step64 x (by omega), Bool.or_true]
        exact hq
      | false =>
        have hq := ih (ahead ++ [c]) x k (by rw [h]; simp) (by omega) (by simp only [List.length_cons] at hk; omega)
        rw [hl'] at hq
        rw [if_neg (by decide), Bool.or_false]
        exact hq
    · rw [if_neg hn, if_neg hn]
theorem check_f (k : Nat) (hk : 40 ≤ k) (a : ByteArray) (l : List S55) : table_Check.f k a l = some (chk a l) := by
  unfold table_Check.f chk
  rw [name_f k hk, Option.bind_some]
  cases nm a with
  | false => rfl
  | true =>
    rw [if_pos rfl, if_pos rfl]
    by_cases h0 : l.length = 0
    · rw [if_pos (by omega), if_pos h0]
    · rw [if_neg (by omega), if_neg h0]
      by_cases h1 : l.length > 16
      · rw [if_pos (by omega), if_pos h1]
      · rw [if_neg (by omega), if_neg h1]
        exact check_l0 a l (by omega) l [] 0 k rfl (Nat.le_refl _) (by omega)
/-- A column that may be. -/
def good (c : S55) : Prop := nm c.f0 = true ∧ (c.f1 = 1 ∨ c.f1 = 2 ∨ c.f1 = 3) ∧ ¬ (c.f2 = true ∧ c.f3 = true)
theorem colE_none {c : S55} {ahead : List S55} (h : (colE c ahead).isNone = true) : good c := by
  unfold colE at h
  split at h
  · rename_i h1
    split at h
    · cases h
    · split at h
      · rename_i h3
        split at h
        · cases h
        · rename_i h4
          exact ⟨h1, h3, h4⟩
      · cases h
  · cases h
theorem chkR_good : ∀ (rest ahead : List S55) (key : Bool), chkR ahead rest key = none → ∀ c ∈ rest, good c := by
  intro rest
  induction rest with
  | nil => intro _ _ _ c h; cases h
  | cons c r ih =>
    intro ahead key h d hd
    unfold chkR at h
    split at h
    · rename_i h1
      rcases List.mem_cons.1 hd with rfl | hd
      · exact colE_none h1
      · exact ih _ _ h d hd
    · cases h
theorem chk_good {a : ByteArray} {l : List S55} (h : chk a l = none) : nm a = true ∧ 1 ≤ l.length ∧ l.length ≤ 16 ∧ ∀ c ∈ l, good c := by
  unfold chk at h
  split at h
  · rename_i h1
    split at h
    · cases h
    · split at h
      · cases h
      · exact ⟨h1, by omega, by omega, chkR_good _ _ _ h⟩
  · cases h
/-! #### texts -/
def kindB (n : Int) : ByteArray := (value_Kind.f n).getD ByteArray.empty
theorem kind_f (n : Int) : value_Kind.f n = some (kindB n) := by
  unfold kindB value_Kind.f
  repeat' split
  all_goals rfl
theorem kindB_size (n : Int) : (kindB n).size ≤ 4 := by
  unfold kindB value_Kind.f
  repeat' split
  all_goals decide
def partB (c : S55) : ByteArray := if c.f2 = true then ((c.f0 ++ (⟨#[32]⟩ : ByteArray)) ++ kindB c.f1) ++ (⟨#[32, 75, 69, 89]⟩ : ByteArray) else if c.f3 = true then ((c.f0 ++ (⟨#[32]⟩ : ByteArray)) ++ kindB c.f1) ++ (⟨#[32, 78, 85, 76, 76]⟩ : ByteArray) else (c.f0 ++ (⟨#[32]⟩ : ByteArray)) ++ kindB c.f1
def colsB (l : List S55) : ByteArray := ⟨(Lib.join ((l.map partB).map (·.data.toList)) (⟨#[44, 32]⟩ : ByteArray).data.toList).toArray⟩
/-- A table's text. -/
def textB (a : ByteArray) (l : List S55) : ByteArray := ((((⟨#[84, 65, 66, 76, 69, 32]⟩ : ByteArray) ++ a) ++ (⟨#[32, 40]⟩ : ByteArray)) ++ colsB l) ++ (⟨#[41]⟩ : ByteArray)
theorem sz1 : (⟨#[32]⟩ : ByteArray).size = 1 := rfl
theorem sz2 : (⟨#[44, 32]⟩ : ByteArray).size = 2 := rfl
theorem sz2' : (⟨#[32, 40]⟩ : ByteArray).size = 2 := rfl
theorem sz1' : (⟨#[41]⟩ : ByteArray).size = 1 := rfl
theorem sz4 : (⟨#[32, 75, 69, 89]⟩ : ByteArray).size = 4 := rfl
theorem sz5 : (⟨#[32, 78, 85, 76, 76]⟩ : ByteArray).size = 5 := rfl
theorem sz6 : (⟨#[84, 65, 66, 76, 69, 32]⟩ : ByteArray).size = 6 := rfl
theorem partB_size {c : S55} (h : c.f0.size ≤ 32) : (partB c).size ≤ 50 := by
  have hk := kindB_size c.f1
  unfold partB
  repeat' split
  all_goals (simp only [ByteArray.size_append, sz1, sz4, sz5]; omega)
theorem join_le (sep : List UInt8) (hs : sep.length = 2) : ∀ (ps : List (List UInt8)), (∀ p ∈ ps, p.length ≤ 50) → (Lib.join ps sep).length ≤ 52 * ps.length := by
  intro ps
  induction ps with
  | nil => intro _; exact Nat.le_refl _
  | cons p r ih =>
    intro h
    have hp := h p (List.mem_cons_self ..)
    cases r with
    | nil => rw [Lib.join_one]; simp; omega
    | cons q r =>
      have := ih (fun x hx => h x (List.mem_cons_of_mem _ hx))
      rw [TabS.join_two]
      simp only [List.length_append, List.length_cons] at *
      omega
theorem colsB_size {l : List S55} (hl : l.length ≤ 16) (h : ∀ c ∈ l, c.f0.size ≤ 32) : (Lib.join ((l.map partB).map (·.data.toList)) (⟨#[44, 32]⟩ : ByteArray).data.toList).length ≤ 832 := by
  have h1 := join_le (⟨#[44, 32]⟩ : ByteArray).data.toList rfl ((l.map partB).map (·.data.toList)) (by
    intro p hp
    obtain ⟨q, hq, rfl⟩ := List.mem_map.1 hp
    obtain ⟨c, hc, rfl⟩ := List.mem_map.1 hq
    rw [← sz]
    exact partB_size (h c hc))
  rw [List.length_map, List.length_map] at h1
  omega
theorem text_l0 (a : ByteArray) (ha : a.size ≤ 32) (l : List S55) (hl : l.length ≤ 16) (hn : ∀ c ∈ l, c.f0.size ≤ 32) : ∀ (rest ahead : List S55) (k : Nat), l = ahead ++ rest → rest.length < k →
    table_Text.l0 k (ahead.map partB) l (l.length : Int) (ahead.length : Int) a l = some (textB a l, none) := by
  intro rest
  induction rest with
  | nil =>
    intro ahead k h hk
    obtain ⟨k, rfl⟩ : ∃ q, k = q + 1 := ⟨k - 1, by omega⟩
    rw [List.append_nil] at h
    subst h
    have hsz := colsB_size hl hn
    have hsz2 : (colsB l).size = (Lib.join ((l.map partB).map (·.data.toList)) (⟨#[44, 32]⟩ : ByteArray).data.toList).length := by rw [sz]; rfl
    have hj : strings_Join.f (l.map partB) (⟨#[44, 32]⟩ : ByteArray) = some (colsB l) := by
      unfold strings_Join.f colsB
      exact if_pos ⟨by omega, by rw [List.length_map]; omega⟩
    simp only [table_Text.l0]
    rw [if_neg (by omega), if_pos (by omega), if_pos (by simp only [ByteArray.size_append, sz6]; omega), hj, Option.bind_some,
      if_pos (by simp only [ByteArray.size_append, sz6, sz2']; omega), if_pos (by simp only [ByteArray.size_append, sz6, sz2']; omega)]
    rfl
  | cons c r ih =>
    intro ahead k h hk
    obtain ⟨k, rfl⟩ : ∃ q, k = q + 1 := ⟨k - 1, by omega⟩
    have hlen : l.length = ahead.length + (r.length + 1) := by rw [h]; simp
    have hc := rd_at h
    have hcs := hn c (by rw [h]; simp)
    have hks := kindB_size c.f1
    have hq := ih (ahead ++ [c]) k (by rw [h]; simp) (by simp only [List.length_cons] at hk; omega)
    rw [List.map_append, List.map_cons, List.map_nil, show (ahead ++ [c]).length = ahead.length + 1 by simp] at hq
    simp only [table_Text.l0]
    rw [if_pos (by omega), if_pos (by omega), if_pos (by omega), hc, if_pos (by omega), kind_f, Option.bind_some, if_pos (by simp only [ByteArray.size_append, sz1]; omega), step64 _ (by omega)]
    cases hf : c.f2 with
    | true =>
      rw [if_pos rfl, if_pos (by simp only [ByteArray.size_append, sz1]; omega), if_pos (by rw [List.length_map]; omega)]
      unfold partB at hq
      rw [if_pos hf] at hq
      exact hq
    | false =>
      rw [if_neg (by decide)]
      unfold partB at hq
      rw [if_neg (by rw [hf]; decide)] at hq
      cases hg : c.f3 with
      | true =>
        rw [if_pos rfl, if_pos (by simp only [ByteArray.size_append, sz1]; omega), if_pos (by rw [List.length_map]; omega)]
        rw [if_pos hg] at hq
        exact hq
      | false =>
        rw [if_neg (by decide), if_pos (by rw [List.length_map]; omega)]
        rw [if_neg (by rw [hg]; decide)] at hq
        exact hq
theorem text_f (k : Nat) (hk : 40 ≤ k) (a : ByteArray) (l : List S55) : table_Text.f k a l = some (if (chk a l).isNone = true then (textB a l, none) else ((⟨#[]⟩ : ByteArray), some ((chk a l).getD 0))) := by
  unfold table_Text.f
  rw [check_f k hk, Option.bind_some]
  by_cases h : (chk a l).isNone = true
  · rw [if_pos h, if_pos h]
    obtain ⟨h1, h2, h3, h4⟩ := chk_good (Option.isNone_iff_eq_none.1 h)
    exact text_l0 a (nm_size h1).2 l h3 (fun c hc => (nm_size (h4 c hc).1).2) l [] k rfl (by omega)
  · rw [if_neg h, if_neg h]
end TabL
end Go.Proofs.YtnflmaonilabgaaDoor.Pure
