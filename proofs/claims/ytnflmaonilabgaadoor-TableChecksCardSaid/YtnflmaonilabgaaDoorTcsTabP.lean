/- Tables, plain: what the program's Parse answers: the table whose text it is, or the error. -/
import Derived.Test.YtnflmaonilabgaaDoorTcsTabL
namespace Go.Proofs.YtnflmaonilabgaaDoor.Pure
open Go.RowKit Go.Proofs.YtnflmaonilabgaaDoor.XTcs Go.Proofs.YtnflmaonilabgaaDoorW.PrintWords Go.Proofs.YtnflmaonilabgaaDoorW.PrintLast Go.Proofs.YtnflmaonilabgaaDoorW.PrintMore
set_option linter.unusedVariables false
set_option linter.unusedSimpArgs false
namespace TabL
open TabS (ext app sz from_ upto_)
/-! #### what is cut -/
theorem cutPrefix_f (s p : ByteArray) (hs : s.size < 9223372036854775000) : ∃ r b, strings_CutPrefix.f s p = some (r, b) ∧ r.size ≤ s.size ∧ ∀ t, s.data.toList = p.data.toList ++ t → r.data.toList = t := by
  unfold strings_CutPrefix.f stringslite_CutPrefix.f stringslite_HasPrefix.f
  by_cases h : (s.size : Int) ≥ (p.size : Int)
  · rw [if_pos h, if_pos (by omega), if_pos (by omega), Option.bind_some]
    cases he : (s.extract 0 ((p.size : Int) : Int).toNat).toList == p.toList with
    | true =>
      rw [if_pos rfl, if_pos (by omega), if_pos (by omega), Option.bind_some]
      refine ⟨_, _, rfl, by rw [ByteArray.size_extract]; omega, fun t ht => ?_⟩
      rw [from_ _ _ _ rfl, Int.toNat_natCast, ht, List.drop_left' (by rw [sz])]
    | false =>
      rw [if_neg (by decide), Option.bind_some]
      refine ⟨_, _, rfl, Nat.le_refl _, fun t ht => ?_⟩
      rw [tl, tl, upto_, Int.toNat_natCast, ht, List.take_left' (by rw [sz]), beq_self_eq_true] at he
      cases he
  · rw [if_neg h, Option.bind_some, if_neg (by decide), Option.bind_some]
    refine ⟨_, _, rfl, Nat.le_refl _, fun t ht => ?_⟩
    exfalso
    have := congrArg List.length ht
    rw [List.length_append, ← sz, ← sz] at this
    omega
theorem trimSuffix_f (s p : ByteArray) (hs : s.size < 9223372036854775000) : ∃ r, strings_TrimSuffix.f s p = some r ∧ r.size ≤ s.size ∧ ∀ t, s.data.toList = t ++ p.data.toList → r.data.toList = t := by
  unfold strings_TrimSuffix.f stringslite_TrimSuffix.f stringslite_HasSuffix.f
  by_cases h : (s.size : Int) ≥ (p.size : Int)
  · have e : wrap64 ((s.size : Int) - (p.size : Int)) = ((s.size - p.size : Nat) : Int) := by rw [wrap64_small _ (by omega) (by omega)]; omega
    rw [if_pos h, e, if_pos (by omega), if_pos (by omega), Option.bind_some, Int.toNat_natCast]
    cases he : (s.extract (s.size - p.size) s.size).toList == p.toList with
    | true =>
      rw [if_pos rfl, if_pos (by omega), if_pos (by omega), Option.bind_some]
      refine ⟨_, rfl, by rw [ByteArray.size_extract]; omega, fun t ht => ?_⟩
      have hl := congrArg List.length ht
      rw [List.length_append, ← sz, ← sz] at hl
      rw [upto_, ht, List.take_left' (by omega)]
    | false =>
      rw [if_neg (by decide), Option.bind_some]
      refine ⟨_, rfl, Nat.le_refl _, fun t ht => ?_⟩
      have hl := congrArg List.length ht
      rw [List.length_append, ← sz, ← sz] at hl
      rw [tl, tl, from_ _ _ _ rfl, ht, List.drop_left' (by omega), beq_self_eq_true] at he
      cases he
  · rw [if_neg h, Option.bind_some, if_neg (by decide), Option.bind_some]
    refine ⟨_, rfl, Nat.le_refl _, fun t ht => ?_⟩
    exfalso
    have hl := congrArg List.length ht
    rw [List.length_append, ← sz, ← sz] at hl
    omega
theorem cut_f (s p : ByteArray) (hs : s.size < 4294967281) (hp : 1 ≤ p.size) : ∃ x y b, strings_Cut.f s p = some (x, y, b) ∧ x.size ≤ s.size ∧ y.size ≤ s.size ∧
    ∀ c t u v, p.data.toList = c :: t → c ∉ u → s.data.toList = u ++ (c :: t ++ v) → x.data.toList = u ∧ y.data.toList = v := by
  unfold strings_Cut.f stringslite_Cut.f stringslite_Index.f
  rw [if_pos hs, Option.bind_some]
  have hi := TabS.index_le s.data.toList p.data.toList
  by_cases h : Lib.index s.data.toList p.data.toList ≥ 0
  · have hr := Lib.index_room s.data.toList p.data.toList h
    rw [← sz, ← sz] at hr
    obtain ⟨i, hi2⟩ : ∃ i : Nat, Lib.index s.data.toList p.data.toList = i := ⟨(Lib.index s.data.toList p.data.toList).toNat, by omega⟩
    rw [hi2] at hr ⊢
    rw [wrap64_small _ (by omega) (by omega), if_pos (by omega), if_pos (by omega), if_pos (by omega), if_pos (by omega), if_pos (by omega), Option.bind_some]
    refine ⟨_, _, _, rfl, by rw [ByteArray.size_extract]; omega, by rw [ByteArray.size_extract]; omega, fun c t u v h1 h2 h3 => ?_⟩
    have h4 : Lib.index s.data.toList p.data.toList = u.length := by rw [h3, h1]; exact TabS.index_at h2
    have h5 : i = u.length := by omega
    subst h5
    refine ⟨?_, ?_⟩
    · rw [upto_, Int.toNat_natCast, h3, List.take_left]
    · rw [from_ _ _ _ rfl, h3, ← List.append_assoc, List.drop_left']
      rw [List.length_append, ← h1, ← sz]
      omega
  · rw [if_neg h, Option.bind_some]
    refine ⟨_, _, _, rfl, Nat.le_refl _, Nat.zero_le _, fun c t u v h1 h2 h3 => ?_⟩
    exfalso
    have h4 : Lib.index s.data.toList p.data.toList = u.length := by rw [h3, h1]; exact TabS.index_at h2
    omega
/-! #### a column's words -/
theorem rd_nat {α : Type} (d : α) (l : List α) (i : Nat) : rdOf d l (i : Int) = l.getD i d := rfl
def kindW (w : List ByteArray) : Nat → Int → Int
  | 0, q => q
  | m + 1, q => if ((w.length : Int) > 1) ∧ (kindB (3 - (m : Int))).toList = (rdOf ByteArray.empty w 1).toList then kindW w m (3 - (m : Int)) else kindW w m q
def colW (w : List ByteArray) : S55 := if (w.length : Int) > 2 then ⟨rdOf ByteArray.empty w 0, kindW w 3 0, ((rdOf ByteArray.empty w 2).toList == ([75, 69, 89] : List UInt8)), ((rdOf ByteArray.empty w 2).toList == ([78, 85, 76, 76] : List UInt8))⟩ else ⟨rdOf ByteArray.empty w 0, kindW w 3 0, false, false⟩
theorem parse_l1 (s : ByteArray) (w parts : List ByteArray) (n i : Int) (a : ByteArray) (cols : List S55) (w0 : ByteArray) (hc : cols.length < 4398046511104) : ∀ (m : Nat) (k : Nat) (q : Int), m ≤ 3 →
    table_Parse.l1 (k + 1 + m) s w (4 - (m : Int)) parts n i a cols w0 q false false = table_Parse.l0 k s parts n (wrap64 (i + 1)) a (cols ++ [if (w.length : Int) > 2 then ⟨w0, kindW w m q, ((rdOf ByteArray.empty w 2).toList == ([75, 69, 89] : List UInt8)), ((rdOf ByteArray.empty w 2).toList == ([78, 85, 76, 76] : List UInt8))⟩ else ⟨w0, kindW w m q, false, false⟩]) := by
  intro m
  induction m with
  | zero =>
    intro k q _
    rw [show k + 1 + 0 = k + 1 from rfl]
    simp only [table_Parse.l1]
    rw [if_neg (by omega)]
    by_cases h : (w.length : Int) > 2
    · rw [if_pos h, if_pos (by omega), if_pos hc, if_pos h]
      rfl
    · rw [if_neg h, if_pos hc, if_neg h]
      rfl
  | succ m ih =>
    intro k q hm
    have e : (4 - ((m + 1 : Nat) : Int)) = 3 - (m : Int) := by omega
    have e2 : wrap64 (3 - (m : Int) + 1) = 4 - (m : Int) := by rw [wrap64_small _ (by omega) (by omega)]; omega
    rw [e, ← Nat.add_assoc]
    simp only [table_Parse.l1]
    rw [if_pos (by omega), e2]
    by_cases h : (w.length : Int) > 1
    · rw [if_pos h, kind_f, Option.bind_some, if_pos (by omega)]
      by_cases h2 : (kindB (3 - (m : Int))).toList = (rdOf ByteArray.empty w 1).toList
      · have e4 : kindW w (m + 1) q = kindW w m (3 - (m : Int)) := if_pos ⟨h, h2⟩
        rw [if_pos h2, e4]
        exact ih k _ (by omega)
      · have e4 : kindW w (m + 1) q = kindW w m q := if_neg (fun z => h2 z.2)
        rw [if_neg h2, e4]
        exact ih k _ (by omega)
    · have e4 : kindW w (m + 1) q = kindW w m q := if_neg (fun z => h z.1)
      rw [if_neg h, e4]
      exact ih k _ (by omega)
def colP (p : ByteArray) : S55 := colW (Lib.splitB (⟨#[32]⟩ : ByteArray) 0 (Lib.countB p (⟨#[32]⟩ : ByteArray)) p)
theorem split_f (s p : ByteArray) (hs : s.size < 4294967281) (hp : 1 ≤ p.size) : strings_Split.f s p = some (Lib.splitB p 0 (Lib.countB s p) s) := if_pos ⟨hs, hp⟩
def fin (s : ByteArray) (a : ByteArray) (l : List S55) : ByteArray × List S55 × Option Int := if chk a l = none ∧ textB a l = s then (a, l, none) else ((⟨#[]⟩ : ByteArray), ([] : List (S55)), some 3)
theorem parse_l0 (s : ByteArray) (a : ByteArray) (parts : List ByteArray) (hp : parts.length < 2199023255552) (hsz : ∀ p ∈ parts, p.size < 4294967281) : ∀ (rest done : List ByteArray) (cols : List S55) (k : Nat), parts = done ++ rest → cols.length = done.length → 40 ≤ k →
    table_Parse.l0 (k + 1 + 5 * rest.length) s parts (parts.length : Int) (done.length : Int) a cols = some (fin s a (cols ++ rest.map colP)) := by
  intro rest
  induction rest with
  | nil =>
    intro done cols k h hc hk
    rw [List.append_nil] at h
    subst h
    rw [show k + 1 + 5 * ([] : List ByteArray).length = k + 1 from rfl]
    simp only [table_Parse.l0, List.map_nil, List.append_nil]
    rw [if_neg (by omega), text_f k hk, Option.bind_some]
    unfold fin
    by_cases h1 : chk a cols = none
    · rw [h1, if_pos (show (none : Option Int).isNone = true from rfl), if_pos (show (none : Option Int).isNone = true from rfl)]
      by_cases h2 : textB a cols = s
      · rw [if_pos (by rw [h2]), if_pos ⟨rfl, h2⟩]
      · rw [if_neg (fun z => h2 (ext (by rw [tl, tl] at z; exact z))), if_neg (fun z => h2 z.2)]
    · have h1' : ¬ (chk a cols).isNone = true := fun z => h1 (Option.isNone_iff_eq_none.1 z)
      rw [if_neg h1', if_neg (by simp), if_neg (fun z => h1 z.1)]
  | cons p r ih =>
    intro done cols k h hc hk
    have hlen : parts.length = done.length + (r.length + 1) := by rw [h]; simp
    have hmem : p ∈ parts := by rw [h]; simp
    have hrd : rdOf ByteArray.empty parts (done.length : Int) = p := by
      rw [rd_nat, h, List.getD_eq_getElem?_getD, List.getElem?_append_right (Nat.le_refl _), Nat.sub_self]
      rfl
    have hw := TabS.splitB_len (⟨#[32]⟩ : ByteArray) p
    have e : k + 1 + 5 * (p :: r).length = (k + 1 + 5 * r.length + 1 + 3) + 1 := by simp only [List.length_cons]; omega
    rw [e]
    simp only [table_Parse.l0]
    rw [if_pos (by omega), if_pos (by omega), if_pos (by omega), hrd, split_f p _ (hsz p hmem) (by decide), Option.bind_some, if_pos (by omega)]
    have h1 := parse_l1 s (Lib.splitB (⟨#[32]⟩ : ByteArray) 0 (Lib.countB p (⟨#[32]⟩ : ByteArray)) p) parts (parts.length : Int) (done.length : Int) a cols (rdOf ByteArray.empty (Lib.splitB (⟨#[32]⟩ : ByteArray) 0 (Lib.countB p (⟨#[32]⟩ : ByteArray)) p) 0) (by omega) 3 (k + 1 + 5 * r.length) 0 (Nat.le_refl _)
    refine Eq.trans h1 ?_
    have h2 := ih (done ++ [p]) (cols ++ [colP p]) k (by rw [h]; simp) (by simp; omega) hk
    rw [step64 _ (by omega), show ((done.length + 1 : Nat) : Int) = (((done ++ [p]).length : Nat) : Int) by simp]
    refine Eq.trans ?_ (h2.trans ?_)
    · rfl
    · rw [List.map_cons, List.append_assoc]
      rfl
/-! #### a table's text is read as it -/
theorem kind_word {n : Int} (h : n = 1 ∨ n = 2 ∨ n = 3) : (32 : UInt8) ∉ (kindB n).data.toList ∧ (44 : UInt8) ∉ (kindB n).data.toList ∧ (if (kindB 1).toList = (kindB n).toList then (if (kindB 2).toList = (kindB n).toList then (if (kindB 3).toList = (kindB n).toList then (3 : Int) else 2) else (if (kindB 3).toList = (kindB n).toList then 3 else 1)) else (if (kindB 2).toList = (kindB n).toList then (if (kindB 3).toList = (kindB n).toList then 3 else 2) else (if (kindB 3).toList = (kindB n).toList then 3 else 0))) = n := by
  rcases h with rfl | rfl | rfl <;> decide +kernel
def flagW (c : S55) : List (List UInt8) := if c.f2 = true then [[75, 69, 89]] else if c.f3 = true then [[78, 85, 76, 76]] else []
theorem part_words (c : S55) : (partB c).data.toList = Lib.join (c.f0.data.toList :: (kindB c.f1).data.toList :: flagW c) [32] := by
  unfold partB flagW
  repeat' split
  all_goals simp [app, TabS.join_two, Lib.join_one, List.append_assoc]
theorem part_no {c : S55} (h : good c) : (44 : UInt8) ∉ (partB c).data.toList := by
  obtain ⟨h1, h2, _⟩ := h
  have hk := (kind_word h2).2.1
  have hn := nm_no h1 (c := 44) (by decide)
  unfold partB
  repeat' split
  all_goals (simp only [app, List.mem_append]; rintro hq; simp [hk, hn] at hq)
theorem words_of {c : S55} (h : good c) : (Lib.splitB (⟨#[32]⟩ : ByteArray) 0 (Lib.countB (partB c) (⟨#[32]⟩ : ByteArray)) (partB c)).map (·.data.toList) = c.f0.data.toList :: (kindB c.f1).data.toList :: flagW c := by
  obtain ⟨h1, h2, _⟩ := h
  refine TabS.splitB_join _ _ 32 [] _ rfl (by simp) ?_ (part_words c)
  intro p hp
  rcases List.mem_cons.1 hp with rfl | hp
  · exact nm_no h1 (by decide)
  rcases List.mem_cons.1 hp with rfl | hp
  · exact (kind_word h2).1
  · unfold flagW at hp
    split at hp
    · simp at hp; subst hp; decide
    · split at hp
      · simp at hp; subst hp; decide
      · cases hp
theorem map_get {w : List ByteArray} {ps : List (List UInt8)} (h : w.map (·.data.toList) = ps) (i : Nat) (p : List UInt8) (hp : ps[i]? = some p) : (rdOf ByteArray.empty w (i : Int)).data.toList = p := by
  subst h
  rw [List.getElem?_map] at hp
  obtain ⟨x, hx, rfl⟩ := Option.map_eq_some_iff.1 hp
  rw [rd_nat, List.getD_eq_getElem?_getD, hx]
  rfl
theorem kindW_eq {w : List ByteArray} {n : Int} (hl : (w.length : Int) > 1) (hn : n = 1 ∨ n = 2 ∨ n = 3) (hw : (rdOf ByteArray.empty w 1).data.toList = (kindB n).data.toList) : kindW w 3 0 = n := by
  have h := (kind_word hn).2.2
  simp only [kindW]
  rw [tl (rdOf ByteArray.empty w 1), hw, ← tl]
  have e1 : (3 : Int) - ((2 : Nat) : Int) = 1 := by decide
  have e2 : (3 : Int) - ((1 : Nat) : Int) = 2 := by decide
  have e3 : (3 : Int) - ((0 : Nat) : Int) = 3 := by decide
  rw [e1, e2, e3]
  simp only [hl, true_and]
  exact h
theorem colP_part {c : S55} (h : good c) : colP (partB c) = c := by
  have hw := words_of h
  obtain ⟨h1, h2, h3⟩ := h
  unfold colP
  generalize Lib.splitB (⟨#[32]⟩ : ByteArray) 0 (Lib.countB (partB c) (⟨#[32]⟩ : ByteArray)) (partB c) = w at hw
  have hlen := congrArg List.length hw
  rw [List.length_map] at hlen
  simp only [List.length_cons] at hlen
  have w0 : rdOf ByteArray.empty w 0 = c.f0 := ext (map_get hw 0 _ rfl)
  have w1 := kindW_eq (by omega) h2 (map_get hw 1 _ rfl)
  obtain ⟨f0, f1, f2, f3⟩ := c
  unfold colW
  rw [w0, w1]
  unfold flagW at hw hlen
  cases f2 with
  | true =>
    rw [if_pos rfl] at hw hlen
    have hf : f3 = false := by cases f3 with
      | true => exact absurd ⟨rfl, rfl⟩ h3
      | false => rfl
    subst hf
    have w2 := map_get hw 2 _ rfl
    rw [if_pos (by simp at hlen; omega), tl, show rdOf ByteArray.empty w 2 = rdOf ByteArray.empty w ((2 : Nat) : Int) from rfl, w2]
    rfl
  | false =>
    rw [if_neg (by simp)] at hw hlen
    cases f3 with
    | true =>
      rw [if_pos rfl] at hw hlen
      have w2 := map_get hw 2 _ rfl
      rw [if_pos (by simp at hlen; omega), tl, show rdOf ByteArray.empty w 2 = rdOf ByteArray.empty w ((2 : Nat) : Int) from rfl, w2]
      rfl
    | false =>
      rw [if_neg (by simp)] at hw hlen
      rw [if_neg (by simp at hlen; omega)]
theorem cols_parts {l : List S55} (h0 : 1 ≤ l.length) (h : ∀ c ∈ l, good c) (r : ByteArray) (hr : r.data.toList = (colsB l).data.toList) : (Lib.splitB (⟨#[44, 32]⟩ : ByteArray) 0 (Lib.countB r (⟨#[44, 32]⟩ : ByteArray)) r).map colP = l := by
  have h1 := TabS.splitB_join (⟨#[44, 32]⟩ : ByteArray) r 44 [32] ((l.map partB).map (·.data.toList)) rfl (by
      intro e
      have := congrArg List.length e
      simp at this
      subst this
      simp at h0) (by
      intro p hp
      obtain ⟨q, hq, rfl⟩ := List.mem_map.1 hp
      obtain ⟨c, hc, rfl⟩ := List.mem_map.1 hq
      exact part_no (h c hc)) (by rw [hr]; rfl)
  have h2 : Lib.splitB (⟨#[44, 32]⟩ : ByteArray) 0 (Lib.countB r (⟨#[44, 32]⟩ : ByteArray)) r = l.map partB := by
    apply List.map_inj_right (f := fun b : ByteArray => b.data.toList) (fun x y hxy => ext hxy) |>.1
    exact h1
  rw [h2, List.map_map]
  conv => rhs; rw [← List.map_id l]
  exact List.map_congr_left fun c hc => colP_part (h c hc)
/-- What the program reads of a text: the one table whose text it is, or the error. -/
theorem parse_f (s : ByteArray) (hs : s.size ≤ 1048576) : ∃ K, ∃ r, (∀ k, K ≤ k → table_Parse.f k s = some r) ∧
    ((∃ a l, r = (a, l, none) ∧ chk a l = none ∧ textB a l = s) ∨ (r = ((⟨#[]⟩ : ByteArray), ([] : List (S55)), some 3) ∧ ∀ a l, chk a l = none → textB a l ≠ s)) ∧
    (∀ a l, chk a l = none → textB a l = s → r = (a, l, none)) := by
  obtain ⟨r1, b1, e1, z1, t1⟩ := cutPrefix_f s (⟨#[84, 65, 66, 76, 69, 32]⟩ : ByteArray) (by omega)
  obtain ⟨a, r2, b2, e2, z2, z2', t2⟩ := cut_f r1 (⟨#[32, 40]⟩ : ByteArray) (by omega) (by decide)
  obtain ⟨r3, e3, z3, t3⟩ := trimSuffix_f r2 (⟨#[41]⟩ : ByteArray) (by omega)
  have e4 := split_f r3 (⟨#[44, 32]⟩ : ByteArray) (by omega) (by decide)
  have hlen := TabS.splitB_le_size (⟨#[44, 32]⟩ : ByteArray) r3 (by decide)
  have hall := TabS.splitB_le (⟨#[44, 32]⟩ : ByteArray) (Lib.countB r3 (⟨#[44, 32]⟩ : ByteArray)) r3
  have hcols : ∀ a' l', chk a' l' = none → textB a' l' = s → a = a' ∧ (Lib.splitB (⟨#[44, 32]⟩ : ByteArray) 0 (Lib.countB r3 (⟨#[44, 32]⟩ : ByteArray)) r3).map colP = l' := by
    intro a' l' hk ht
    obtain ⟨g1, g2, g3, g4⟩ := chk_good hk
    have y1 := t1 (a'.data.toList ++ ((32 :: [40]) ++ ((colsB l').data.toList ++ [41]))) (by
      rw [← ht]
      simp [textB, app, List.append_assoc])
    obtain ⟨y2, y3⟩ := t2 32 [40] _ _ rfl (nm_no g1 (by decide)) y1
    have y4 := t3 _ y3
    exact ⟨ext y2, cols_parts g2 g4 r3 y4⟩
  generalize hP : Lib.splitB (⟨#[44, 32]⟩ : ByteArray) 0 (Lib.countB r3 (⟨#[44, 32]⟩ : ByteArray)) r3 = parts at *
  have hf : ∀ k, 40 + 1 + 5 * parts.length ≤ k → table_Parse.f k s = some (fin s a (parts.map colP)) := by
    intro k hk
    unfold table_Parse.f
    rw [e1, Option.bind_some, e2, Option.bind_some, e3, Option.bind_some, e4, Option.bind_some]
    have h0 := parse_l0 s a parts (by omega) (fun p hp => by have := hall p hp; omega) parts [] [] (k - 1 - 5 * parts.length) rfl rfl (by omega)
    rw [show k - 1 - 5 * parts.length + 1 + 5 * parts.length = k by omega] at h0
    exact h0
  refine ⟨_, _, hf, ?_, ?_⟩
  · by_cases h : chk a (parts.map colP) = none ∧ textB a (parts.map colP) = s
    · refine .inl ⟨a, parts.map colP, if_pos h, h.1, h.2⟩
    · refine .inr ⟨if_neg h, fun a' l' h1 h2 => h ?_⟩
      obtain ⟨rfl, rfl⟩ := hcols a' l' h1 h2
      exact ⟨h1, h2⟩
  · intro a' l' h1 h2
    obtain ⟨rfl, rfl⟩ := hcols a' l' h1 h2
    exact if_pos ⟨h1, h2⟩
theorem text_ok (k : Nat) (hk : 40 ≤ k) {a : ByteArray} {l : List S55} (h : chk a l = none) : table_Text.f k a l = some (textB a l, none) := by
  rw [text_f k hk, if_pos (Option.isNone_iff_eq_none.2 h)]
theorem nn {α : Type} (x y : α) : (if (none : Option Int).isNone = true then x else y) = x := if_pos rfl
theorem ns {α : Type} (e : Int) (x y : α) : (if (some e).isNone = true then x else y) = y := if_neg (by simp)
theorem bt_ {α : Type} (x y : α) : (if true = true then x else y) = x := if_pos rfl
/-! #### the same -/
theorem same_l0 (a b : ByteArray) (l : List S55) (hl : l.length < 9223372036854770000) : ∀ d k i : Nat, i + d = l.length → d < k → barbicanref15_Same.l0 k (i : Int) a l b l = some true := by
  intro d
  induction d with
  | zero =>
    intro k i hi hk
    obtain ⟨k, rfl⟩ : ∃ q, k = q + 1 := ⟨k - 1, by omega⟩
    simp only [barbicanref15_Same.l0]
    rw [if_neg (by omega)]
  | succ d ih =>
    intro k i hi hk
    obtain ⟨k, rfl⟩ : ∃ q, k = q + 1 := ⟨k - 1, by omega⟩
    have hr := ih k (i + 1) (by omega) (by omega)
    simp only [barbicanref15_Same.l0]
    rw [if_pos (by omega), if_pos (by omega), if_pos (by omega), step64 i (by omega), hr, if_neg (by simp)]
theorem same_f (k : Nat) (a : ByteArray) (l : List S55) (hl : l.length < 9223372036854770000) (hk : l.length + 5 ≤ k) : barbicanref15_Same.f k a l a l = some true := by
  unfold barbicanref15_Same.f
  obtain ⟨k, rfl⟩ : ∃ q, k = q + 1 := ⟨k - 1, by omega⟩
  rw [if_pos rfl]
  simp only [barbicanref15_Same.j0]
  rw [if_neg (by simp)]
  exact same_l0 a a l hl l.length k 0 (by omega) (by omega)
/-! #### what must come -/
set_option maxRecDepth 20000 in
theorem sure_100 : barbicanlaw15_sure.f 100 = some true := by decide +kernel
theorem sure_f (k : Nat) (hk : 100 ≤ k) : barbicanlaw15_sure.f k = some true := at_rounds (g := fun k => barbicanlaw15_sure.f k) (fun k => barbicanlaw15_sure.mono k) hk sure_100
theorem twin_f (a : ByteArray) (l : List S55) (h : l.length < 4398046511104) : barbicanlaw15_twin.f a l = some (a, l) := by
  unfold barbicanlaw15_twin.f
  rw [if_pos (by simpa using h)]
  rfl
end TabL
end Go.Proofs.YtnflmaonilabgaaDoor.Pure
