/- TableChecks, plain: whether a table may be, its text, the place of a column, and the errors are the document's. -/
import Derived.Test.YtnflmaonilabgaaDoorXTcsx16
import Derived.Test.YtnflmaonilabgaaDoorTcsTabP
import Derived.Test.YtnflmaonilabgaaDoorXSt55
import Derived.Test.YtnflmaonilabgaaDoorXSt24
import Derived.Test.YtnflmaonilabgaaDoorXTcsx14
import Derived.Test.YtnflmaonilabgaaDoorXTcsx13
import Derived.Test.YtnflmaonilabgaaDoorXTcsx12
import Derived.Test.YtnflmaonilabgaaDoorTcsTabL
/- Tables, plain: the document's Reserved, Name, Check and Text answer as the program's do. -/
namespace Go.Proofs.YtnflmaonilabgaaDoor.Pure
open Go.RowKit Go.Proofs.YtnflmaonilabgaaDoor.XTcs Go.Proofs.YtnflmaonilabgaaDoorW.PrintWords Go.Proofs.YtnflmaonilabgaaDoorW.PrintLast Go.Proofs.YtnflmaonilabgaaDoorW.PrintMore
set_option linter.unusedVariables false
set_option linter.unusedSimpArgs false
namespace TabL
open TabS (ext app sz from_ upto_)
theorem rdn {α : Type} (d : α) (l : List α) (i : Nat) : rdOf d l (i : Int) = l.getD i d := rfl
/-! #### reserved words -/
def wordsB : List ByteArray := (barbicanref15_Words.f).getD []
theorem words_f : barbicanref15_Words.f = some wordsB := rfl
theorem rres_l0 (s : ByteArray) (ws : List ByteArray) (hw : ws.length < 9223372036854770000) : ∀ (rest done : List ByteArray) (k : Nat), ws = done ++ rest → rest.length < k →
    barbicanref15_Reserved.l0 k s ws (done.length : Int) = some (decide (s.data.toList ∈ rest.map (·.data.toList))) := by
  intro rest
  induction rest with
  | nil =>
    intro done k h hk
    obtain ⟨k, rfl⟩ : ∃ q, k = q + 1 := ⟨k - 1, by omega⟩
    rw [List.append_nil] at h
    subst h
    simp only [barbicanref15_Reserved.l0]
    rw [if_neg (by omega)]
    rfl
  | cons p r ih =>
    intro done k h hk
    obtain ⟨k, rfl⟩ : ∃ q, k = q + 1 := ⟨k - 1, by omega⟩
    have hlen : ws.length = done.length + (r.length + 1) := by rw [h]; simp
    have hrd : rdOf ByteArray.empty ws (done.length : Int) = p := by
      rw [rdn, h, List.getD_eq_getElem?_getD, List.getElem?_append_right (Nat.le_refl _), Nat.sub_self]
      rfl
    have hi := ih (done ++ [p]) k (by rw [h]; simp) (by simp only [List.length_cons] at hk; omega)
    rw [show (done ++ [p]).length = done.length + 1 by simp] at hi
    simp only [barbicanref15_Reserved.l0]
    rw [if_pos (by omega), if_pos (by omega), hrd, step64 _ (by omega), hi]
    by_cases he : p.toList = s.toList
    · have : s = p := (ext (by rw [tl, tl] at he; exact he)).symm
      subst this
      rw [if_pos he, decide_eq_true (by rw [List.map_cons]; exact List.mem_cons_self ..)]
    · rw [if_neg he]
      congr 1
      rw [decide_eq_decide, List.map_cons, List.mem_cons]
      constructor
      · exact .inr
      · rintro (hq | hq)
        · exact absurd (by rw [tl, tl]; exact hq.symm) he
        · exact hq
def wordsL : List (List UInt8) := wordsB.map (·.data.toList)
theorem rres_f (k : Nat) (hk : 60 ≤ k) (s : ByteArray) : barbicanref15_Reserved.f k s = some (decide (s.data.toList ∈ wordsL)) := by
  unfold barbicanref15_Reserved.f
  rw [words_f, Option.bind_some]
  have h39 : wordsB.length = 39 := by decide +kernel
  exact rres_l0 s wordsB (by omega) wordsB [] k rfl (by omega)
def bigW : ByteArray := ⟨(([32, 97, 110, 100, 32, 97, 115, 32, 97, 115, 99, 32, 98, 101, 103, 105, 110, 32, 98, 111, 111, 108, 32, 98, 121, 32, 99, 111, 109, 109, 105, 116, 32, 99, 111, 117, 110, 116, 32, 100, 101, 108, 101, 116, 101, 32, 100, 101, 115, 99, 32, 101].append [120, 112, 108, 97, 105, 110, 32, 102, 97, 108, 115, 101, 32, 102, 114, 111, 109, 32, 103, 114, 111, 117, 112, 32, 105, 110, 115, 101, 114, 116, 32, 105, 110, 116, 32, 105, 110, 116, 111, 32, 105, 115, 32, 107, 101, 121, 32, 108, 97, 98, 101, 108, 32]).append ([108, 105, 109, 105, 116, 32, 109, 97, 120, 32, 109, 105, 110, 32, 110, 111, 116, 32, 110, 117, 108, 108, 32, 111, 114, 32, 111, 114, 100, 101, 114, 32, 114, 101, 108, 101, 97, 115, 101, 32, 114, 111, 108, 108, 98, 97, 99, 107, 32, 115, 101, 108].append [101, 99, 116, 32, 115, 101, 116, 32, 115, 117, 109, 32, 116, 97, 98, 108, 101, 32, 116, 101, 120, 116, 32, 116, 114, 117, 101, 32, 117, 112, 100, 97, 116, 101, 32, 118, 97, 108, 117, 101, 115, 32, 118, 105, 101, 119, 32, 119, 104, 101, 114, 101, 32])).toArray⟩
theorem bigW_data : bigW.data.toList = TabS.wtext wordsL := by decide +kernel
theorem words_no : ∀ w ∈ wordsL, (32 : UInt8) ∉ w := by decide +kernel
theorem words_ne : ∀ w ∈ wordsL, w ≠ [] := by decide +kernel
theorem resv_eq (s : ByteArray) (h : s.size < 9223372036854700000) : table_Reserved.f s = some (decide (s.data.toList ∈ wordsL)) := by
  unfold table_Reserved.f
  by_cases h0 : s.toList = ([] : List UInt8)
  · rw [if_pos h0, decide_eq_false]
    intro hm
    exact words_ne _ hm (by rw [← tl]; exact h0)
  · rw [if_neg h0, contains_f _ _ (.inr rfl), Option.bind_some]
    have hne : s.data.toList ≠ [] := by rw [← tl]; exact h0
    by_cases h1 : (32 : UInt8) ∈ s.data.toList
    · have : Lib.contains s.data.toList (⟨#[32]⟩ : ByteArray).data.toList = true := decide_eq_true ((TabS.has_one 32 _).2 h1)
      rw [if_pos this, decide_eq_false]
      intro hm
      exact words_no _ hm h1
    · have : ¬ Lib.contains s.data.toList (⟨#[32]⟩ : ByteArray).data.toList = true := fun z => h1 ((TabS.has_one 32 _).1 (of_decide_eq_true z))
      rw [if_neg this, if_pos (by omega), if_pos (by rw [ByteArray.size_append]; simp only [ByteArray.size, List.size_toArray, List.length_cons, List.length_nil] at *; omega)]
      have hb : strings_Contains.f bigW (((⟨#[32]⟩ : ByteArray) ++ s) ++ (⟨#[32]⟩ : ByteArray)) = some (decide (s.data.toList ∈ wordsL)) := by
        rw [contains_f _ _ (.inl (by decide +kernel))]
        congr 1
        unfold Lib.contains
        rw [decide_eq_decide, bigW_data, ← TabS.has_words h1 hne _ words_no]
        simp [app]
      refine (congrArg (fun z => Option.bind z fun t102 => some t102) hb).trans ?_
      rfl
theorem resv_is (s : ByteArray) (h : s.size < 9223372036854700000) : resv s = decide (s.data.toList ∈ wordsL) := by
  unfold resv
  rw [resv_eq s h]
  rfl
/-! #### names -/
theorem rname_l0 (s : ByteArray) (hs : s.size < 9223372036854700000) : ∀ d k i : Nat, i + d = s.size → d + 70 < k → barbicanref15_Name.l0 k s (i : Int) = some (okFrom s d i && (decide (1 ≤ s.size ∧ s.size ≤ 32) && !resv s)) := by
  intro d
  induction d with
  | zero =>
    intro k i hi hk
    obtain ⟨k, rfl⟩ : ∃ q, k = q + 1 := ⟨k - 1, by omega⟩
    simp only [barbicanref15_Name.l0]
    rw [if_neg (by omega), show okFrom s 0 i = true from rfl, Bool.true_and]
    by_cases h0 : (s.size : Int) > 0
    · rw [if_pos h0]
      by_cases h1 : (s.size : Int) ≤ 32
      · rw [if_pos h1, rres_f k (by omega), Option.bind_some, resv_is s hs, decide_eq_true (p := 1 ≤ s.size ∧ s.size ≤ 32) (by omega), Bool.true_and]
      · rw [if_neg h1, decide_eq_false (p := 1 ≤ s.size ∧ s.size ≤ 32) (by omega), Bool.false_and]
    · rw [if_neg h0, decide_eq_false (p := 1 ≤ s.size ∧ s.size ≤ 32) (by omega), Bool.false_and]
  | succ d ih =>
    intro k i hi hk
    obtain ⟨k, rfl⟩ : ∃ q, k = q + 1 := ⟨k - 1, by omega⟩
    have hr := ih k (i + 1) (by omega) (by omega)
    simp only [barbicanref15_Name.l0]
    rw [if_pos (by omega), if_pos (by omega), step64 i (by omega), hr]
    have e : okFrom s (d + 1) i = (okB i (bt s (i : Int)) && okFrom s d (i + 1)) := rfl
    rw [e, Bool.and_assoc]
    generalize (okFrom s d (i + 1) && (decide (1 ≤ s.size ∧ s.size ≤ 32) && !resv s)) = r
    generalize bt s (i : Int) = b
    repeat' split
    all_goals first
      | (exfalso; omega)
      | (rw [show okB i b = true from decide_eq_true (by omega), Bool.true_and])
      | (rw [show okB i b = false from decide_eq_false (by omega), Bool.false_and])
theorem rname_f (k : Nat) (s : ByteArray) (hs : s.size < 9223372036854700000) (hk : s.size + 80 ≤ k) : barbicanref15_Name.f k s = some (nm s) := by
  unfold barbicanref15_Name.f
  refine (rname_l0 s hs s.size k 0 (by omega) (by omega)).trans ?_
  unfold nm
  congr 1
  cases okFrom s s.size 0 <;> cases resv s <;> cases decide (1 ≤ s.size ∧ s.size ≤ 32) <;> rfl
/-! #### whether a table may be -/
theorem rcheck_l1 (a : ByteArray) (l : List S55) (c : S55) (key : Bool) (n : Nat) (hn : n ≤ l.length) (hl : l.length ≤ 16) : ∀ d k j : Nat, j + d = n → d + 3 ≤ k →
    ∃ q, k ≤ q + d + 2 ∧ barbicanref15_Check.l1 k key (n : Int) (j : Int) a l c.f0 c.f1 c.f2 c.f3 = (if ((l.drop j).take d).any (sameName c.f0) = true then some 9 else if c.f1 = 1 ∨ c.f1 = 2 ∨ c.f1 = 3 then (if c.f2 = true ∧ c.f3 = true then some 33 else barbicanref15_Check.l0 q (key || c.f2) (wrap64 ((n : Int) + 1)) a l) else some 7) := by
  intro d
  induction d with
  | zero =>
    intro k j hj hk
    obtain ⟨k, rfl⟩ : ∃ q, k = q + 2 := ⟨k - 2, by omega⟩
    refine ⟨k, by omega, ?_⟩
    rw [List.take_zero, List.any_nil, if_neg (by decide)]
    simp only [barbicanref15_Check.l1]
    rw [if_neg (by omega)]
    obtain ⟨f0, f1, f2, f3⟩ := c
    dsimp only
    by_cases h1 : f1 < 1
    · rw [if_pos h1, if_neg (by omega)]
      simp only [barbicanref15_Check.j2, ↓reduceIte]
    · rw [if_neg h1]
      simp only [barbicanref15_Check.j2]
      by_cases h2 : f1 > 3
      · rw [if_pos (decide_eq_true h2), if_neg (by omega)]
      · rw [if_neg (by simp; omega), if_pos (show f1 = 1 ∨ f1 = 2 ∨ f1 = 3 by omega)]
        cases f2 <;> cases f3 <;> cases key <;> simp
  | succ d ih =>
    intro k j hj hk
    obtain ⟨k, rfl⟩ : ∃ q, k = q + 1 := ⟨k - 1, by omega⟩
    obtain ⟨q, hq, hi⟩ := ih k (j + 1) (by omega) (by omega)
    refine ⟨q, by omega, ?_⟩
    have hjl : j < l.length := by omega
    have hd : (l.drop j).take (d + 1) = l[j] :: (l.drop (j + 1)).take d := by rw [List.drop_eq_getElem_cons hjl, List.take_succ_cons]
    have hrd : rd_T55 l (j : Int) = l[j] := by unfold rd_T55; rw [Int.toNat_natCast, List.getD_eq_getElem?_getD, List.getElem?_eq_getElem hjl]; rfl
    simp only [barbicanref15_Check.l1]
    rw [if_pos (by omega), if_pos (by omega), if_pos (by omega), hrd, step64 j (by omega), hi, hd, List.any_cons]
    by_cases he : l[j].f0.toList = c.f0.toList
    · rw [if_pos he, if_pos (by unfold sameName; simp [he])]
    · rw [if_neg he]
      have : sameName c.f0 l[j] = false := by unfold sameName; simpa using he
      rw [this, Bool.false_or]
theorem rcheck_l0 (a : ByteArray) (l : List S55) (hl : l.length ≤ 16) (M : Nat) (hM : M < 9223372036854700000) (hn : ∀ c ∈ l, c.f0.size ≤ M) : ∀ (rest ahead : List S55) (key : Bool) (k : Nat), l = ahead ++ rest → M + 100 + 25 * rest.length ≤ k →
    barbicanref15_Check.l0 k key (ahead.length : Int) a l = some ((chkR ahead rest key).getD 0) := by
  intro rest
  induction rest with
  | nil =>
    intro ahead key k h hk
    obtain ⟨k, rfl⟩ : ∃ q, k = q + 1 := ⟨k - 1, by omega⟩
    rw [List.append_nil] at h
    subst h
    simp only [barbicanref15_Check.l0]
    rw [if_neg (by omega)]
    unfold chkR
    cases key <;> rfl
  | cons c r ih =>
    intro ahead key k h hk
    simp only [List.length_cons] at hk
    obtain ⟨k, rfl⟩ : ∃ q, k = q + 1 := ⟨k - 1, by omega⟩
    have hlen : l.length = ahead.length + (r.length + 1) := by rw [h]; simp
    have hc := rd_at h
    have hcM := hn c (by rw [h]; simp)
    obtain ⟨q, hq, h1⟩ := rcheck_l1 a l c key ahead.length (by omega) hl ahead.length k 0 (by omega) (by omega)
    rw [List.drop_zero, show l.take ahead.length = ahead by rw [h, List.take_left]] at h1
    simp only [barbicanref15_Check.l0]
    rw [if_pos (by omega), if_pos (by omega), hc, rname_f k c.f0 (by omega) (by omega), Option.bind_some]
    have e : chkR ahead (c :: r) key = if (colE c ahead).isNone = true then chkR (ahead ++ [c]) r (key || c.f2) else some ((colE c ahead).getD 0) := rfl
    rw [e]
    have hi := ih (ahead ++ [c]) (key || c.f2) q (by rw [h]; simp) (by omega)
    rw [show (ahead ++ [c]).length = ahead.length + 1 by simp, ← step64 _ (by omega)] at hi
    unfold colE
    cases hnm : nm c.f0 with
    | false => rfl
    | true =>
      rw [if_pos rfl]
      refine Eq.trans h1 ?_
      rw [hi]
      by_cases h2 : ahead.any (sameName c.f0) = true
      · simp only [if_pos h2, if_pos]; rfl
      · by_cases h3 : c.f1 = 1 ∨ c.f1 = 2 ∨ c.f1 = 3
        · by_cases h4 : c.f2 = true ∧ c.f3 = true
          · simp only [if_neg h2, if_pos h3, if_pos h4, if_pos]; rfl
          · simp only [if_neg h2, if_pos h3, if_neg h4, if_pos]; rfl
        · simp only [if_neg h2, if_neg h3, if_pos]; rfl
theorem rcheck_f (k : Nat) (a : ByteArray) (l : List S55) (M : Nat) (hM : M < 9223372036854700000) (ha : a.size ≤ M) (hn : ∀ c ∈ l, c.f0.size ≤ M) (hk : M + 600 ≤ k) : barbicanref15_Check.f k a l = some ((chk a l).getD 0) := by
  unfold barbicanref15_Check.f chk
  rw [rname_f k a (by omega) (by omega), Option.bind_some]
  cases nm a with
  | false => rfl
  | true =>
    rw [if_pos rfl, if_pos rfl]
    by_cases h0 : l.length = 0
    · rw [if_pos (by omega), if_pos h0]; rfl
    · rw [if_neg (by omega), if_neg h0]
      by_cases h1 : l.length > 16
      · rw [if_pos (by omega), if_pos h1]; rfl
      · rw [if_neg (by omega), if_neg h1]
        exact rcheck_l0 a l (by omega) M hM hn l [] false k rfl (by omega)
theorem colE_ne {c : S55} {ahead : List S55} {e : Int} (h : colE c ahead = some e) : e ≠ 0 := by
  unfold colE at h
  repeat' split at h
  all_goals first
    | cases h; done
    | (injection h with h; omega)
theorem chkR_ne : ∀ (rest ahead : List S55) (key : Bool) (e : Int), chkR ahead rest key = some e → e ≠ 0 := by
  intro rest
  induction rest with
  | nil => intro ahead key e h; unfold chkR at h; split at h; · cases h
           · injection h with h; omega
  | cons c r ih =>
    intro ahead key e h
    unfold chkR at h
    split at h
    · exact ih _ _ _ h
    · rename_i h1
      cases hc : colE c ahead with
      | none => rw [hc] at h1; exact absurd rfl h1
      | some q => rw [hc] at h; injection h with h; subst h; exact colE_ne hc
theorem chk_ne {a : ByteArray} {l : List S55} {e : Int} (h : chk a l = some e) : e ≠ 0 := by
  unfold chk at h
  repeat' split at h
  all_goals first
    | (injection h with h; omega)
    | exact chkR_ne _ _ _ _ h
theorem chk_zero (a : ByteArray) (l : List S55) : (chk a l).getD 0 = 0 ↔ chk a l = none := by
  cases h : chk a l with
  | none => simp
  | some e => simp; exact chk_ne h
/-! #### texts -/
theorem rkind {n : Int} (h : n = 1 ∨ n = 2 ∨ n = 3) : 0 ≤ n ∧ n < (([(⟨#[]⟩ : ByteArray), (⟨#[73, 78, 84]⟩ : ByteArray), (⟨#[84, 69, 88, 84]⟩ : ByteArray), (⟨#[66, 79, 79, 76]⟩ : ByteArray)] : List ByteArray).length : Int) ∧ rdOf ByteArray.empty ([(⟨#[]⟩ : ByteArray), (⟨#[73, 78, 84]⟩ : ByteArray), (⟨#[84, 69, 88, 84]⟩ : ByteArray), (⟨#[66, 79, 79, 76]⟩ : ByteArray)] : List ByteArray) n = kindB n := by
  rcases h with rfl | rfl | rfl <;> exact ⟨by decide, by decide, rfl⟩
/-- A table's text, as far as its columns are laid. -/
def accL (a : ByteArray) (l : List S55) : List UInt8 := (⟨#[84, 65, 66, 76, 69, 32]⟩ : ByteArray).data.toList ++ (a.data.toList ++ ((⟨#[32, 40]⟩ : ByteArray).data.toList ++ Lib.join ((l.map partB).map (·.data.toList)) [44, 32]))
theorem rtext_j1 (a : ByteArray) (l : List S55) (c : S55) (hg : good c) (x : ByteArray) (i : Int) (hx : x.size < 100000) (k : Nat) : barbicanref15_Text.j1 (k + 1) x i a l c.f0 c.f1 c.f2 c.f3 = barbicanref15_Text.l0 k (x ++ partB c) (wrap64 (i + 1)) a l := by
  obtain ⟨h1, h2, h3⟩ := hg
  have hs := nm_size h1
  obtain ⟨k1, k2, k3⟩ := rkind h2
  have hks := kindB_size c.f1
  have happ : ∀ u v w : ByteArray, (u ++ v) ++ w = u ++ (v ++ w) := fun u v w => ext (by simp [app, List.append_assoc])
  obtain ⟨f0, f1, f2, f3⟩ := c
  dsimp only at *
  simp only [barbicanref15_Text.j1]
  rw [if_pos (by omega), if_pos (by rw [ByteArray.size_append]; omega), Option.bind_some, if_pos k1, if_pos k2, k3, if_pos (by simp only [ByteArray.size_append, sz1]; omega)]
  unfold partB
  dsimp only
  cases f2 with
  | true =>
    cases f3 with
    | true => exact absurd ⟨rfl, rfl⟩ h3
    | false =>
      rw [if_pos rfl, if_pos (by simp only [ByteArray.size_append, sz1]; omega), if_neg Bool.false_ne_true, if_pos rfl]
      simp only [happ]
  | false =>
    cases f3 with
    | true =>
      rw [if_neg Bool.false_ne_true, if_pos rfl, if_pos (by simp only [ByteArray.size_append, sz1]; omega), if_neg Bool.false_ne_true, if_pos rfl]
      simp only [happ]
    | false =>
      rw [if_neg Bool.false_ne_true, if_neg Bool.false_ne_true, if_neg Bool.false_ne_true, if_neg Bool.false_ne_true]
      simp only [happ]
theorem acc_size {a : ByteArray} (ha : a.size ≤ 32) {l : List S55} (hl : l.length ≤ 16) (hg : ∀ c ∈ l, good c) {x : ByteArray} (hx : x.data.toList = accL a l) : x.size ≤ 900 := by
  have h1 := colsB_size hl (fun c hc => (nm_size (hg c hc).1).2)
  rw [sz, hx]
  unfold accL
  simp only [List.length_append]
  rw [← sz]
  simp only [List.length_cons, List.length_nil]
  have h2 : (Lib.join ((l.map partB).map (·.data.toList)) [44, 32]).length ≤ 832 := h1
  omega
theorem rtext_l0 (a : ByteArray) (ha : a.size ≤ 32) (l : List S55) (hl : l.length ≤ 16) (hg : ∀ c ∈ l, good c) : ∀ (rest ahead : List S55) (x : ByteArray) (k : Nat), l = ahead ++ rest → x.data.toList = accL a ahead → 2 * rest.length + 1 ≤ k →
    barbicanref15_Text.l0 k x (ahead.length : Int) a l = some (textB a l, 0) := by
  intro rest
  induction rest with
  | nil =>
    intro ahead x k h hx hk
    obtain ⟨k, rfl⟩ : ∃ q, k = q + 1 := ⟨k - 1, by omega⟩
    rw [List.append_nil] at h
    subst h
    have hxs := acc_size ha hl hg hx
    simp only [barbicanref15_Text.l0]
    rw [if_neg (by omega), if_pos (by omega)]
    congr 2
    apply ext
    rw [app, hx]
    simp [textB, accL, app, colsB, List.append_assoc]
  | cons c r ih =>
    intro ahead x k h hx hk
    simp only [List.length_cons] at hk
    obtain ⟨k, rfl⟩ : ∃ q, k = q + 1 + 1 := ⟨k - 2, by omega⟩
    have hlen : l.length = ahead.length + (r.length + 1) := by rw [h]; simp
    have hc := rd_at h
    have hcg := hg c (by rw [h]; simp)
    have hxs := acc_size ha (l := ahead) (by omega) (fun d hd => hg d (by rw [h]; simp [hd])) hx
    have hn : ∀ y : ByteArray, y.data.toList = accL a (ahead ++ [c]) → barbicanref15_Text.l0 k y (wrap64 ((ahead.length : Int) + 1)) a l = some (textB a l, 0) := by
      intro y hy
      have hi := ih (ahead ++ [c]) y k (by rw [h]; simp) hy (by omega)
      rw [show (ahead ++ [c]).length = ahead.length + 1 by simp] at hi
      rw [step64 _ (by omega)]
      exact hi
    simp only [barbicanref15_Text.l0]
    rw [if_pos (by omega), if_pos (by omega), hc]
    cases ahead with
    | nil =>
      rw [if_neg (by simp), rtext_j1 a l c hcg x _ (by omega)]
      apply hn
      rw [app, hx]
      simp [accL, Lib.join_one, Lib.join_nil, List.append_assoc]
    | cons d u =>
      rw [if_pos (by simp only [List.length_cons]; omega), if_pos (by omega), rtext_j1 a l c hcg _ _ (by rw [ByteArray.size_append, sz2]; omega)]
      apply hn
      rw [app, app, hx]
      unfold accL
      simp only [List.map_append, List.map_cons, List.map_nil]
      rw [List.cons_append, ← List.cons_append, TabS.join_end]
      simp [List.append_assoc]
theorem rtext_f (k : Nat) (a : ByteArray) (l : List S55) (M : Nat) (hM : M < 9223372036854700000) (ha : a.size ≤ M) (hn : ∀ c ∈ l, c.f0.size ≤ M) (hk : M + 600 ≤ k) : barbicanref15_Text.f k a l = some (if chk a l = none then (textB a l, 0) else ((⟨#[]⟩ : ByteArray), (chk a l).getD 0)) := by
  unfold barbicanref15_Text.f
  rw [rcheck_f k a l M hM ha hn hk, Option.bind_some]
  by_cases h : chk a l = none
  · rw [if_pos ((chk_zero a l).2 h), if_pos h]
    obtain ⟨h1, h2, h3, h4⟩ := chk_good h
    have hs := nm_size h1
    rw [if_pos (by omega), if_pos (by rw [ByteArray.size_append, sz6]; omega)]
    exact rtext_l0 a hs.2 l h3 h4 l [] _ k rfl (by simp [app, accL, Lib.join_nil, List.append_assoc]) (by omega)
  · rw [if_neg (fun z => h ((chk_zero a l).1 z)), if_neg h]
end TabL
end Go.Proofs.YtnflmaonilabgaaDoor.Pure
namespace Go.Proofs.YtnflmaonilabgaaDoor.Pure
open Go.RowKit Go.Proofs.YtnflmaonilabgaaDoor.XTcs Go.Proofs.YtnflmaonilabgaaDoorW.PrintWords Go.Proofs.YtnflmaonilabgaaDoorW.PrintLast Go.Proofs.YtnflmaonilabgaaDoorW.PrintMore
set_option linter.unusedVariables false
set_option linter.unusedSimpArgs false
namespace TabL
theorem rcol_l0 (s a : ByteArray) (l : List S55) (hl : l.length < 9223372036854770000) : ∀ (rest done : List S55) (k : Nat), l = done ++ rest → rest.length < k →
    barbicanref15_Column.l0 k s (done.length : Int) a l = some (if Lib.idxByFrom (fun _ y => sameName s y) default rest done.length ≥ 0 then (Lib.idxByFrom (fun _ y => sameName s y) default rest done.length, 0) else (0, 30)) := by
  intro rest
  induction rest with
  | nil =>
    intro done k h hk
    obtain ⟨k, rfl⟩ : ∃ q, k = q + 1 := ⟨k - 1, by omega⟩
    rw [List.append_nil] at h
    subst h
    simp only [barbicanref15_Column.l0]
    rw [if_neg (by omega)]
    rfl
  | cons c r ih =>
    intro done k h hk
    obtain ⟨k, rfl⟩ : ∃ q, k = q + 1 := ⟨k - 1, by omega⟩
    have hlen : l.length = done.length + (r.length + 1) := by rw [h]; simp
    have hc := rd_at h
    have hi := ih (done ++ [c]) k (by rw [h]; simp) (by simp only [List.length_cons] at hk; omega)
    rw [show (done ++ [c]).length = done.length + 1 by simp] at hi
    simp only [barbicanref15_Column.l0]
    rw [if_pos (by omega), if_pos (by omega), hc, step64 _ (by omega), hi]
    have e : Lib.idxByFrom (fun _ y => sameName s y) default (c :: r) done.length = if sameName s c = true then (done.length : Int) else Lib.idxByFrom (fun _ y => sameName s y) default r (done.length + 1) := by
      simp only [Lib.idxByFrom]
    rw [e]
    by_cases hq : c.f0.toList = s.toList
    · have : sameName s c = true := by unfold sameName; simp [hq]
      rw [if_pos hq, if_pos this, if_pos (by omega)]
    · have : ¬ sameName s c = true := by unfold sameName; simpa using hq
      rw [if_neg hq, if_neg this]
theorem rcol_f (k : Nat) (s a : ByteArray) (l : List S55) (hl : l.length < 9223372036854770000) (hk : l.length < k) : barbicanref15_Column.f k a l s = some (if placeOf s l ≥ 0 then (placeOf s l, 0) else (0, 30)) :=
  rcol_l0 s a l hl l [] k rfl hk
end TabL
open TabL in
theorem TableChecks (a0_0 : ByteArray) (l0_1 : List (S55)) (a1 : ByteArray) (g0_0 : (fun s : ByteArray => s.size ≤ 140737488351232) a0_0) (g0_1 : (fun xs : List (S55) => xs.length * 32 ≤ 140737488351232 ∧ xs.length ≤ maxLen ∧ ∀ x ∈ xs, goodw55 x) l0_1) (g1 : (fun s : ByteArray => s.size ≤ 140737488351232) a1) : ∃ k, barbicanlaw15_TableChecks.f k a0_0 l0_1 a1 = some true := by
  replace g0_0 : a0_0.size ≤ 140737488351232 := g0_0
  replace g0_1 : l0_1.length * 32 ≤ 140737488351232 ∧ l0_1.length ≤ maxLen ∧ ∀ x ∈ l0_1, goodw55 x := g0_1
  replace g1 : a1.size ≤ 140737488351232 := g1
  have hlen : l0_1.length ≤ 140737488351232 := by have := g0_1.1; omega
  have hlen2 : l0_1.length < 4398046511104 := by have := g0_1.1; omega
  have hM : ∀ c ∈ l0_1, c.f0.size ≤ 140737488351232 := by
    intro c hc
    exact (g0_1.2.2 c hc).1
  refine ⟨400000000000000, ?_⟩
  generalize hkk : (400000000000000 : Nat) = k
  obtain ⟨k, rfl⟩ : ∃ q, k = q + 1 := ⟨k - 1, by omega⟩
  unfold barbicanlaw15_TableChecks.f
  rw [twin_f a0_0 l0_1 (by omega), Option.bind_some]
  dsimp only
  have hcol : table_Column.f a0_0 l0_1 a1 = some (if placeOf a1 l0_1 ≥ 0 then (placeOf a1 l0_1, none) else (0, some 30)) := by
    unfold table_Column.f
    rw [if_pos (by omega)]
    split <;> rfl
  rw [text_f (k + 1) (by omega) a0_0 l0_1, Option.bind_some, rtext_f (k + 1) a0_0 l0_1 140737488351232 (by omega) (by omega) hM (by omega), Option.bind_some, hcol, Option.bind_some,
    rcol_f (k + 1) a1 a0_0 l0_1 (by omega) (by omega), Option.bind_some, name_f (k + 1) (by omega) a1, Option.bind_some, rname_f (k + 1) a1 (by omega) (by omega), Option.bind_some, if_pos (by simp),
    resv_eq a1 (by omega), Option.bind_some, rres_f (k + 1) (by omega) a1, Option.bind_some, beq_self_eq_true]
  simp only [barbicanlaw15_TableChecks.j0, ↓reduceIte]
  rw [check_f k (by omega), Option.bind_some, rcheck_f k a0_0 l0_1 140737488351232 (by omega) (by omega) hM (by omega)]
  unfold barbicanlaw15_num.f
  rw [Option.bind_some, Option.bind_some, if_pos rfl]
  have e1 : (if (chk a0_0 l0_1).isNone = true then (textB a0_0 l0_1, (none : Option Int)) else ((⟨#[]⟩ : ByteArray), some ((chk a0_0 l0_1).getD 0))) = (if chk a0_0 l0_1 = none then textB a0_0 l0_1 else (⟨#[]⟩ : ByteArray), chk a0_0 l0_1) := by
    cases chk a0_0 l0_1 <;> rfl
  have e2 : (if chk a0_0 l0_1 = none then (textB a0_0 l0_1, (0 : Int)) else ((⟨#[]⟩ : ByteArray), (chk a0_0 l0_1).getD 0)) = (if chk a0_0 l0_1 = none then textB a0_0 l0_1 else (⟨#[]⟩ : ByteArray), (chk a0_0 l0_1).getD 0) := by
    cases chk a0_0 l0_1 <;> rfl
  rw [e1, e2]
  dsimp only
  rw [if_pos rfl, Option.bind_some, if_pos rfl]
  have e3 : (if placeOf a1 l0_1 ≥ 0 then (placeOf a1 l0_1, (none : Option Int)) else (0, some 30)).1 = (if placeOf a1 l0_1 ≥ 0 then (placeOf a1 l0_1, (0 : Int)) else (0, 30)).1 := by split <;> rfl
  have e4 : (if placeOf a1 l0_1 ≥ 0 then (placeOf a1 l0_1, (none : Option Int)) else (0, some 30)).2.getD 0 = (if placeOf a1 l0_1 ≥ 0 then (placeOf a1 l0_1, (0 : Int)) else (0, 30)).2 := by split <;> rfl
  rw [if_pos e3, Option.bind_some, if_pos e4, same_f k _ _ (by omega) (by omega), Option.bind_some, if_pos rfl, sure_f k (by omega)]
  rfl
end Go.Proofs.YtnflmaonilabgaaDoor.Pure
